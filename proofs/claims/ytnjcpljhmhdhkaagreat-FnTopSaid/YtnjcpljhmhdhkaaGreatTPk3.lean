/- part 3 -/
import Derived.Test.YtnjcpljhmhdhkaaGreatTPk1
import Derived.Test.YtnjcpljhmhdhkaaGreatTPk2
import Derived.BigRegion
import Derived.OwnWalk
import Derived.StillTailTactics
import Derived.Outline
import Derived.Deep.RegionHeld3
import Derived.Deep.DeepCutAuto
set_option linter.unusedSimpArgs false
set_option linter.unusedVariables false
set_option maxRecDepth 100000
set_option maxHeartbeats 4000000
namespace Go.Proofs.YtnjcpljhmhdhkaaGreat
open Go.RowKit
theorem qo {α:Type} (f:α->List Value) (n:Nat) (hf:∀x,(f x).length =n):∀l:List α,(l.flatMap f).length =l.length*n
 | []=>by simp
 |x::l=>by rw[aam,aaW,hf,qo f n hf l,aaU,Nat.add_mul];omega
theorem yA {α:Type} (f:α->List Value) (n:Nat) (hf:∀x,(f x).length =n):∀(l:List α) (k j:Nat) (hk:k<l.length) (hj:j<n),(l.flatMap f)[k*n+j]? =(f l[k])[j]?
 | [],k,j,hk,hj=>absurd hk (by simp)
 |x::l,0,j,hk,hj=>by
  rw[aam,abc (by rw[hf];omega)];simp
 |x::l,k+1,j,hk,hj=>by
  rw[aam,abb (by rw[hf,Nat.add_mul];omega),hf,show(k+1)*n+j -n=k*n+j by rw[Nat.add_mul];omega,
   yA f n hf l k j (by simpa using hk) hj]
  simp
def Blk (w:World) (g:Nat) (t:TypeId) (cs:Array Value):Prop:=w.heap[g]? =some (.cells cs t (0,0))
section
variable {w w':World} {g:Nat} {t:TypeId} {cs:Array Value}
theorem Blk.lt (h:Blk w g t cs):g<w.heap.size:=by
 rcases abj g w.heap.size with Hf|Mu
 ·exact Hf
 ·unfold Blk at h;rw[abw Mu] at h;cases h
theorem Blk.cell (h:Blk w g t cs) (i:Nat):w.cell? ⟨g,i,none⟩=cs[i]? :=cell_of_row w g i cs t (0,0) h
theorem Blk.frozen (h:Blk w g t cs) (i:Nat):w.frozen? ⟨g,i,none⟩=false:=by
 unfold Blk at h;simp[World.frozen?,h]
theorem Blk.new (w:World) (t:TypeId) (cs:Array Value):Blk (w.alloc (.cells cs t)) w.heap.size t cs:=heap_alloc_new w _
theorem Blk.drew (h:Blk w g t cs):Blk w.drew g t cs:=h
theorem Blk.drewN (h:Blk w g t cs) (n:Nat):Blk (w.drewN n) g t cs:=h
theorem Blk.alloc (h:Blk w g t cs) (o:Obj):Blk (w.alloc o) g t cs:=(Below.heap_alloc w o g h.lt).trans h
theorem Blk.set_ (h:Blk w g t cs) (i:Nat) (u:Value):Blk (w.setCell ⟨g,i,none⟩ u) g t (cs.setIfInBounds i u):=by
 unfold Blk at h⊢;simp[World.setCell,Array.getElem?_modify,h]
theorem Blk.far (h:Blk w g t cs) {p:Addr} (hp:g≠p.block) (u:Value):Blk (w.setCell p u) g t cs:=(Below.heap_setCell w p u g hp).trans h
theorem Blk.below {B:Nat} (h:Blk w g t cs) (hb:Below B w w') (hg:g<B):Blk w' g t cs:=(hb.block g hg).trans h
end
theorem Blk.c2 {w:World} {g:Nat} {t:TypeId} {v0 v1:Value} (h:Blk w g t #[v0,v1]):w.cell? ⟨g,0,none⟩=some v0/\w.cell? ⟨g,1,none⟩=some v1:=⟨h.cell 0,h.cell 1⟩
theorem Blk.b2 {w:World} {g:Nat} {t:TypeId} {v0 v1:Value} (h:Blk w g t #[v0,v1]):w.cell? ⟨g,0,none⟩=some v0/\w.cell? ⟨g,1,none⟩=some v1/\w.frozen? ⟨g,0,none⟩=false/\w.frozen? ⟨g,1,none⟩=false:=⟨h.cell 0,h.cell 1,h.frozen 0,h.frozen 1⟩
theorem Blk.c3 {w:World} {g:Nat} {t:TypeId} {v0 v1 v2:Value} (h:Blk w g t #[v0,v1,v2]):w.cell? ⟨g,0,none⟩=some v0/\w.cell? ⟨g,1,none⟩=some v1/\w.cell? ⟨g,2,none⟩=some v2:=⟨h.cell 0,h.cell 1,h.cell 2⟩
theorem Blk.b3 {w:World} {g:Nat} {t:TypeId} {v0 v1 v2:Value} (h:Blk w g t #[v0,v1,v2]):w.cell? ⟨g,0,none⟩=some v0/\w.cell? ⟨g,1,none⟩=some v1/\w.cell? ⟨g,2,none⟩=some v2/\w.frozen? ⟨g,0,none⟩=false/\w.frozen? ⟨g,1,none⟩=false/\w.frozen? ⟨g,2,none⟩=false:=⟨h.cell 0,h.cell 1,h.cell 2,h.frozen 0,h.frozen 1,h.frozen 2⟩
theorem Blk.c5 {w:World} {g:Nat} {t:TypeId} {v0 v1 v2 v3 v4:Value} (h:Blk w g t #[v0,v1,v2,v3,v4]):w.cell? ⟨g,0,none⟩=some v0/\w.cell? ⟨g,1,none⟩=some v1/\w.cell? ⟨g,2,none⟩=some v2/\w.cell? ⟨g,3,none⟩=some v3/\w.cell? ⟨g,4,none⟩=some v4:=⟨h.cell 0,h.cell 1,h.cell 2,h.cell 3,h.cell 4⟩
theorem Blk.b5 {w:World} {g:Nat} {t:TypeId} {v0 v1 v2 v3 v4:Value} (h:Blk w g t #[v0,v1,v2,v3,v4]):w.cell? ⟨g,0,none⟩=some v0/\w.cell? ⟨g,1,none⟩=some v1/\w.cell? ⟨g,2,none⟩=some v2/\w.cell? ⟨g,3,none⟩=some v3/\w.cell? ⟨g,4,none⟩=some v4/\w.frozen? ⟨g,0,none⟩=false/\w.frozen? ⟨g,1,none⟩=false/\w.frozen? ⟨g,2,none⟩=false/\w.frozen? ⟨g,3,none⟩=false/\w.frozen? ⟨g,4,none⟩=false:=⟨h.cell 0,h.cell 1,h.cell 2,h.cell 3,h.cell 4,h.frozen 0,h.frozen 1,h.frozen 2,h.frozen 3,h.frozen 4⟩
theorem Blk.c8 {w:World} {g:Nat} {t:TypeId} {v0 v1 v2 v3 v4 v5 v6 v7:Value} (h:Blk w g t #[v0,v1,v2,v3,v4,v5,v6,v7]):w.cell? ⟨g,0,none⟩=some v0/\w.cell? ⟨g,1,none⟩=some v1/\w.cell? ⟨g,2,none⟩=some v2/\w.cell? ⟨g,3,none⟩=some v3/\w.cell? ⟨g,4,none⟩=some v4/\w.cell? ⟨g,5,none⟩=some v5/\w.cell? ⟨g,6,none⟩=some v6/\w.cell? ⟨g,7,none⟩=some v7:=⟨h.cell 0,h.cell 1,h.cell 2,h.cell 3,h.cell 4,h.cell 5,h.cell 6,h.cell 7⟩
theorem Blk.b8 {w:World} {g:Nat} {t:TypeId} {v0 v1 v2 v3 v4 v5 v6 v7:Value} (h:Blk w g t #[v0,v1,v2,v3,v4,v5,v6,v7]):w.cell? ⟨g,0,none⟩=some v0/\w.cell? ⟨g,1,none⟩=some v1/\w.cell? ⟨g,2,none⟩=some v2/\w.cell? ⟨g,3,none⟩=some v3/\w.cell? ⟨g,4,none⟩=some v4/\w.cell? ⟨g,5,none⟩=some v5/\w.cell? ⟨g,6,none⟩=some v6/\w.cell? ⟨g,7,none⟩=some v7/\w.frozen? ⟨g,0,none⟩=false/\w.frozen? ⟨g,1,none⟩=false/\w.frozen? ⟨g,2,none⟩=false/\w.frozen? ⟨g,3,none⟩=false/\w.frozen? ⟨g,4,none⟩=false/\w.frozen? ⟨g,5,none⟩=false/\w.frozen? ⟨g,6,none⟩=false/\w.frozen? ⟨g,7,none⟩=false:=⟨h.cell 0,h.cell 1,h.cell 2,h.cell 3,h.cell 4,h.cell 5,h.cell 6,h.cell 7,h.frozen 0,h.frozen 1,h.frozen 2,h.frozen 3,h.frozen 4,h.frozen 5,h.frozen 6,h.frozen 7⟩
theorem Blk.newAt {w:World} {g:Nat} {t:TypeId} {cs:Array Value} (h:g=w.heap.size):Blk (w.alloc (.cells cs t)) g t cs:=by
 subst h;exact Blk.new w t cs
theorem kI {base:Nat} {w:World} {e:TypeId} {size:Nat} {v:Value} {n:Nat} {xs:List Value} (h:w.ownsRow base e size v n xs):RS w size v n xs:=by
 obtain⟨h1,h2⟩:=h;refine⟨h1,?_⟩
 rcases h2 with ⟨rfl,hn⟩|⟨g,cap,cur,rfl,_,hh,bO,mh,gI,Cx⟩
 ·exact⟨none,0,by rw[hn],by omega,by rw[hn];simp[maxLen],fun hp=>absurd hp o_⟩
 ·refine⟨_,cap,rfl,bO,by omega,fun hp=>⟨g,0,rfl,?_,fun j u hu=>?_⟩⟩
  ·rcases abj g w.heap.size with Hf|Mu
   ·exact Hf
   ·rw[abw Mu] at hh;cases hh
  ·rw[aaF,cell_of_row _ _ _ cur e (0,0) hh]
   rw[<-Cx] at hu;rw[List.getElem?_take] at hu
   split at hu
   ·simpa using hu
   ·cases hu
theorem ql {base:Nat} {w w':World} {e:TypeId} {size:Nat} {v:Value} {n:Nat} {xs:List Value} (h:w.ownsRow base e size v n xs) (hb:Below w.heap.size w w'):w'.ownsRow base e size v n xs:=by
 refine World.ownsRow.kept (row:=none) h ⟨hb.os,hb.tape,hb.output,hb.size,fun k hk _=>hb.block k hk⟩ ?_
 cases hv:v.ownBlock with
 |none=>exact .inl rfl
 |some k=>exact .inr (by simp)
theorem Blk.grown {w w':World} {b g:Nat} {t:TypeId} {cs:Array Value} (h:Blk w b t cs) (hg:w.grownBy w' (some g)) (Hv:b≠g):Blk w' b t cs:=
 (hg.block b h.lt (fun e=>Hv (by cases e;rfl))).trans h
theorem jf {a w:World} {row:Option Nat} (h:a.grownBy w row) (o:Obj):a.grownBy (w.alloc o) row:=
 ⟨h.os,h.tape,h.output,aai h.size (by simp),fun i hi Hv=>(Below.heap_alloc w o i (aaD hi h.size)).trans (h.block i hi Hv)⟩
theorem Qv {a w:World} {row:Option Nat} (h:a.grownBy w row) (n:Nat):a.grownBy (w.drewN n) row:=⟨h.os,h.tape,h.output,h.size,h.block⟩
theorem OwnI.cell {base:Nat} {w:World} {g cap n:Nat} {G:List Int} (h:OwnI base w (.slice (some ⟨g,0,none⟩) n cap) G) {q:Nat} (hq:q<G.length):w.cell? ⟨g,q,none⟩=some (.int .i64 (G.getD q 0)):=by
 have hn:=h.1;have ho:w.ownsRow base 3 1 (.slice (some ⟨g,0,none⟩) n cap) G.length (G.map vI):=h
 have e:n=G.length:=by
  rcases ho.2 with ⟨e,_⟩|⟨g',cap',cur,e,_⟩
  ·cases e
  ·injection e
 subst e;rw[ho.cellAt q o_,aau,aac hq];simp[vI,List.getD,aac hq]
theorem OwnI.frz {base:Nat} {w:World} {g cap n:Nat} {G:List Int} (h:OwnI base w (.slice (some ⟨g,0,none⟩) n cap) G) (q:Nat):w.frozen? ⟨g,q,none⟩=false:=by
 have ho:w.ownsRow base 3 1 (.slice (some ⟨g,0,none⟩) n cap) G.length (G.map vI):=h
 have e:n=G.length:=by
  rcases ho.2 with ⟨e,_⟩|⟨g',cap',cur,e,_⟩
  ·cases e
  ·injection e
 subst e;exact ho.frozenAt q
theorem OwnI.set_ {base:Nat} {w:World} {g cap n:Nat} {G:List Int} (h:OwnI base w (.slice (some ⟨g,0,none⟩) n cap) G) (q:Nat) (x:Int):
  OwnI base (w.setCell ⟨g,q,none⟩ (.int .i64 x)) (.slice (some ⟨g,0,none⟩) n cap) (G.set q x):=by
 have ho:w.ownsRow base 3 1 (.slice (some ⟨g,0,none⟩) n cap) G.length (G.map vI):=h
 have e:n=G.length:=by
  rcases ho.2 with ⟨e,_⟩|⟨g',cap',cur,e,_⟩
  ·cases e
  ·injection e
 subst e;have:=(ho.stored q (.int .i64 x)).1;unfold OwnI;rw[aar,List.map_set];exact this
theorem OwnI.far {base:Nat} {w w':World} {v:Value} {zs:List Int} {row:Option Nat} (h:OwnI base w v zs) (hg:w.grownBy w' row) (hr:∀k,row=some k->k<base):OwnI base w' v zs:=by
 refine World.ownsRow.kept h hg ?_
 cases hv:v.ownBlock with
 |none=>exact .inl rfl
 |some k=>
  right
  rintro rfl;have:=hr k rfl;have:=(OwnI.lt h k hv).1;omega
def prc (p:Int×Int):List Value:=[.int .i64 p.1,.int .i64 p.2]
def RP (w:World) (v:Value) (l:List (Int×Int)):Prop:=RS w 2 v l.length (l.flatMap prc)
theorem RP.below {w w':World} {v:Value} {l:List (Int×Int)} (h:RP w v l) (hb:Below w.heap.size w w'):RP w' v l:=RS.below h hb
theorem RP.form {w:World} {v:Value} {l:List (Int×Int)} (h:RP w v l):∃A c,v= .slice A l.length c/\l.length<=c/\l.length<=maxLen/\
  (0<l.length->∃b off,A=some ⟨b,off,none⟩/\b<w.heap.size/\∀k (hk:k<l.length),w.cell? ⟨b,off+k*2,none⟩=some (.int .i64 l[k].1)/\w.cell? ⟨b,off+k*2+1,none⟩=some (.int .i64 l[k].2)):=by
 obtain⟨_,A,c,hv,h1,h2,h3⟩:=h;refine⟨A,c,hv,h1,h2,fun hn=>?_⟩
 obtain⟨b,off,hA,Hf,hc⟩:=h3 hn;refine⟨b,off,hA,Hf,fun k hk=>?_⟩
 have g:=fun j hj=>yA prc 2 (fun _=>rfl) l k j hk hj
 refine⟨?_,?_⟩
 ·exact hc (k*2+0) _ (by rw[g 0 o_];rfl)
 ·have:=hc (k*2+1) _ (by rw[g 1 o_];rfl);rwa [<-aak] at this
theorem j6 {w:World} {l:List (Int×Int)} {cs:Array Value} {t:TypeId} {g n c:Nat} (hg:g=w.heap.size) (Fm:cs.toList=l.flatMap prc) (hn:n=l.length) (hc:c=l.length) (hm:l.length<=maxLen):
  RP (w.alloc (.cells cs t)) (.slice (some ⟨g,0,none⟩) n c) l:=by
 subst hg hn hc;refine⟨qo prc 2 (fun _=>rfl) l,_,_,rfl,by omega,hm,fun hn=>⟨w.heap.size,0,rfl,by simp,fun j u hu=>?_⟩⟩
 rw[<-Fm] at hu;have Be:cs[j]? =some u:=by simpa using hu
 rw[aaF,cell_of_row _ _ _ cs t (0,0) (heap_alloc_new w _)];exact Be
def OwnP (t:TypeId) (base:Nat) (w:World) (v:Value) (l:List (Int×Int)):Prop:=w.ownsRow base t 2 v l.length (l.flatMap prc)
theorem OwnP.form {t:TypeId} {base:Nat} {w:World} {v:Value} {l:List (Int×Int)} (h:OwnP t base w v l):∃A c,v= .slice A l.length c:=by
 rcases h.2 with ⟨rfl,hn⟩|⟨g,cap,cur,rfl,_⟩
 ·exact⟨none,0,by rw[hn]⟩
 ·exact⟨_,_,rfl⟩
section
variable {t:TypeId} {base:Nat} {w w':World} {v:Value} {l:List (Int×Int)}
theorem OwnP.nil (t:TypeId) (base:Nat) (w:World):OwnP t base w (.slice none 0 0) []:=World.ownsRow_nil _ _ _ _
theorem OwnP.reads (h:OwnP t base w v l):RP w v l:=kI h
theorem OwnP.kept (h:OwnP t base w v l) (hb:Below w.heap.size w w'):OwnP t base w' v l:=ql h hb
theorem OwnP.alloc (h:OwnP t base w v l) (o:Obj):OwnP t base (w.alloc o) v l:=World.ownsRow.alloc h o
theorem OwnP.drew (h:OwnP t base w v l):OwnP t base w.drew v l:=h
theorem OwnP.lt (h:OwnP t base w v l):∀k,v.ownBlock=some k->base<=k/\k<w.heap.size:=World.ownsRow.lt h
theorem OwnP.mono {base':Nat} (h:OwnP t base w v l) (hb:base'<=base):OwnP t base' w v l:=by
 obtain⟨h1,h2⟩:=h;refine⟨h1,?_⟩
 rcases h2 with h2|⟨g,cap,cur,e1,e2,e3⟩
 ·exact .inl h2
 ·exact .inr ⟨g,cap,cur,e1,aai hb e2,e3⟩
theorem OwnP.far {row:Option Nat} (h:OwnP t base w v l) (hg:w.grownBy w' row) (hr:∀k,row=some k->k<base):OwnP t base w' v l:=by
 refine World.ownsRow.kept h hg ?_
 cases hv:v.ownBlock with
 |none=>exact .inl rfl
 |some k=>
  right
  rintro rfl;have:=hr k rfl;have:=(OwnP.lt h k hv).1;omega
end
theorem OwnP.apart {t:TypeId} {base:Nat} {w w':World} {v:Value} {l:List (Int×Int)} {row:Option Nat} (h:OwnP t base w v l) (hg:w.grownBy w' row) (hr:∀k,v.ownBlock=some k->row=some k->False):OwnP t base w' v l:=by
 refine World.ownsRow.kept h hg ?_
 cases hv:v.ownBlock with
 |none=>exact .inl rfl
 |some k=>exact .inr (fun e=>hr k hv e.symm)
theorem jq (w:World) (p:Addr) (u:Value):w.grownBy (w.setCell p u) (some p.block):=
 ⟨rfl,rfl,rfl,by simp[World.setCell],fun i hi Hv=>Below.heap_setCell w p u i (fun e=>Hv (by rw[e]))⟩
theorem OwnP.setLow {t:TypeId} {base:Nat} {w:World} {v:Value} {l:List (Int×Int)} (h:OwnP t base w v l) {p:Addr} (hp:p.block<base) (u:Value):OwnP t base (w.setCell p u) v l:=
 h.far (jq w p u) (fun k hk=>by cases hk;exact hp)
theorem OwnP.len {t:TypeId} {base:Nat} {w:World} {g n cap:Nat} {G:List (Int×Int)} (h:OwnP t base w (.slice (some ⟨g,0,none⟩) n cap) G):n=G.length:=by
 have ho:w.ownsRow base t 2 (.slice (some ⟨g,0,none⟩) n cap) G.length (G.flatMap prc):=h
 rcases ho.2 with ⟨e,_⟩|⟨g',cap',cur,e,_⟩
 ·cases e
 ·injection e
theorem z2V:∀(l:List (Int×Int)) (k:Nat) (x:Int×Int),k<l.length->(l.set k x).flatMap prc=((l.flatMap prc).set (k*2) (.int .i64 x.1)).set (k*2+1) (.int .i64 x.2)
 | [],k,x,h=>absurd h (by simp)
 |a::l,0,x,h=>by simp[prc]
 |a::l,k+1,x,h=>by
  have ih:=z2V l k x (by simpa using h);have e:(k+1)*2=k*2+1+1:=o_
  rw[aap,aam,ih,aam,e];simp[prc]
theorem OwnP.cell {t:TypeId} {base:Nat} {w:World} {g n cap:Nat} {G:List (Int×Int)} (h:OwnP t base w (.slice (some ⟨g,0,none⟩) n cap) G) {q:Nat} (hq:q<G.length):
  w.cell? ⟨g,q*2,none⟩=some (.int .i64 G[q].1)/\w.cell? ⟨g,q*2+1,none⟩=some (.int .i64 G[q].2):=by
 have e:=h.len;subst e;have ho:w.ownsRow base t 2 (.slice (some ⟨g,0,none⟩) G.length cap) G.length (G.flatMap prc):=h;have g':=fun j hj=>yA prc 2 (fun _=>rfl) G q j hq hj
 refine⟨?_,?_⟩
 ·rw[ho.cellAt _ o_];have:=g' 0 o_;rw[aaf] at this;rw[this];rfl
 ·rw[ho.cellAt _ o_,g' 1 o_];rfl
theorem OwnP.frz {t:TypeId} {base:Nat} {w:World} {g n cap:Nat} {G:List (Int×Int)} (h:OwnP t base w (.slice (some ⟨g,0,none⟩) n cap) G) (q:Nat):w.frozen? ⟨g,q,none⟩=false:=by
 have e:=h.len;subst e;have ho:w.ownsRow base t 2 (.slice (some ⟨g,0,none⟩) G.length cap) G.length (G.flatMap prc):=h;exact ho.frozenAt q
theorem OwnP.set_ {t:TypeId} {base:Nat} {w:World} {g n cap:Nat} {G:List (Int×Int)} (h:OwnP t base w (.slice (some ⟨g,0,none⟩) n cap) G) {q:Nat} (hq:q<G.length) (x y:Int):
  OwnP t base ((w.setCell ⟨g,q*2,none⟩ (.int .i64 x)).setCell ⟨g,q*2+1,none⟩ (.int .i64 y)) (.slice (some ⟨g,0,none⟩) n cap) (G.set q (x,y)):=by
 have e:=h.len;subst e;have ho:w.ownsRow base t 2 (.slice (some ⟨g,0,none⟩) G.length cap) G.length (G.flatMap prc):=h;have:=((ho.stored (q*2) (.int .i64 x)).1.stored (q*2+1) (.int .i64 y)).1;unfold OwnP;rw[aar,z2V G q (x,y) hq];exact this
def prB (a b c d:Int):Bool:=a==c&&b==d
theorem kl {a b c d:Int}:prB a b c d=true↔(a,b)=(c,d):=by simp[prB]
theorem Q0 (a b:Int):prB a b a b=true:=by simp[prB]
theorem zr (a b c d:Int) (w:World):(binOp .eql 106 (.agg #[.int .i64 a,.int .i64 b]) (.agg #[.int .i64 c,.int .i64 d])).run Tryz.prog w= .ok (.bool (prB a b c d)) w:=by
 go_simp;unfold prB
 by_cases h1:a=c<;>by_cases h2:b=d<;>simp[h1,h2]
theorem Qx (a b c d:Int) (w:World):(binOp .eql 108 (.agg #[.int .i64 a,.int .i64 b]) (.agg #[.int .i64 c,.int .i64 d])).run Tryz.prog w= .ok (.bool (prB a b c d)) w:=by
 go_simp;unfold prB
 by_cases h1:a=c<;>by_cases h2:b=d<;>simp[h1,h2]
theorem zq (a b c d:Int) (w:World):(binOp .neq 106 (.agg #[.int .i64 a,.int .i64 b]) (.agg #[.int .i64 c,.int .i64 d])).run Tryz.prog w= .ok (.bool (!(prB a b c d))) w:=by
 go_simp;unfold prB
 by_cases h1:a=c<;>by_cases h2:b=d<;>simp[h1,h2]
theorem QB (a b c d:Int) (w:World):(binOp .neq 108 (.agg #[.int .i64 a,.int .i64 b]) (.agg #[.int .i64 c,.int .i64 d])).run Tryz.prog w= .ok (.bool (!(prB a b c d))) w:=by
 go_simp;unfold prB
 by_cases h1:a=c<;>by_cases h2:b=d<;>simp[h1,h2]
theorem kB:(Tryz.prog.info? 106).map (fun i=>(i.zero,i.size,i.bytes))=some (some (.agg #[.int .i64 0,.int .i64 0]),2,16):=by kernel_rfl
theorem jd:(Tryz.prog.info? 108).map (fun i=>(i.zero,i.size,i.bytes))=some (some (.agg #[.int .i64 0,.int .i64 0]),2,16):=by kernel_rfl
attribute [local go_sem ↓] zr zq zU zT
def zh (x y:Int):Bool:=inB x 0 20&&inB y 0 20
theorem zF {x y:Int} (h:zh x y=true):0<=x/\x<=20/\0<=y/\y<=20:=by
 simp[zh,inB] at h;omega
def q8 (ax ay bx by' cx cy:Int):Int:=(bx -ax)*(cy -ay) -(by' -ay)*(cx -ax)
def yI (ax ay bx by' cx cy:Int):Bool:=
 zh ax ay&&zh bx by'&&zh cx cy&& !(prB ax ay bx by')&& !(prB bx by' cx cy)&& !(prB ax ay cx cy)&&(q8 ax ay bx by' cx cy==0)&&inB cx (mn2 ax bx) (mx2 ax bx)&&inB cy (mn2 ay by') (mx2 ay by')
theorem kv {u v:Int} (h1: -20<=u) (h2:u<=20) (h3: -20<=v) (h4:v<=20): -400<=u*v/\u*v<=400:=by
 have h:(u*v).natAbs <=20*20:=by
  rw[Int.natAbs_mul];exact Nat.mul_le_mul o_ o_
 omega
theorem QS {ax ay bx by' cx cy:Int} (ha:zh ax ay=true) (hb:zh bx by'=true) (hc:zh cx cy=true): -800<=q8 ax ay bx by' cx cy/\q8 ax ay bx by' cx cy<=800:=by
 have h1:=zF ha;have h2:=zF hb;have h3:=zF hc;have m1:=kv (u:=bx -ax) (v:=cy -ay) o_ o_ o_ o_;have m2:=kv (u:=by' -ay) (v:=cx -ax) o_ o_ o_ o_;unfold q8;omega
theorem qT (x y:Int) (w:World):
  CB_ 195 #[.agg #[.int .i64 x,.int .i64 y]] w (.bool (zh x y)):=by
 go_enter Tryz.func195,Tryz.ntmps195
 go_wp2_with (go_at_call 138;refine(qf _ _ _ _).mono ?_;rintro e w' ⟨rfl,rfl⟩)
 all_goals go_ret
 all_goals refine⟨z8 ?_,by exact bel_⟩
 all_goals simp_all[zh]
theorem ZZ (x y:Int) (w:World):
  CB_ 211 #[.agg #[.int .i64 x,.int .i64 y]] w (.bool (zh x y)):=by
 go_enter Tryz.func211,Tryz.ntmps211
 go_wp2_with (go_at_call 78;refine(yK _ _ _ _).mono ?_;rintro e w' ⟨rfl,rfl⟩)
 all_goals go_ret
 all_goals refine⟨z8 ?_,by exact bel_⟩
 all_goals simp_all[zh]
def q9 (l:List (Int×Int)):Bool:=l.all fun p=>zh p.1 p.2
theorem xx (v:Value) (l:List (Int×Int)) (w:World) (h:RP w v l):
  CB_ 154 #[v] w (.bool (q9 l)):=by
 obtain⟨A,c,rfl,hc,hm,hcell⟩:=h.form;unfold maxLen at hm;clear h
 go_enter Tryz.func154,Tryz.ntmps154
 go_wp2
 go_loopw [7] (fun i wr=>∃k:Nat,k<=l.length/\i= .int .i64 k/\Hid (q9 (l.take k)=true)/\Below w.heap.size w wr) (fun i _=>l.length -(intOf i).toNat)
 case atStart=>exact⟨0,aab _,rfl,h_ (by simp[q9]),aaj _ _⟩
 case round=>
  obtain⟨k,hk,rfl,HT,Hd⟩:=hrel;have gI:=Hd.size
  by_cases Hf:k<l.length
  ·obtain⟨b,off,rfl,hb,Hz⟩:=hcell o_
   obtain⟨k0,k1⟩:=Hz k Hf;have q0:=(Hd.cell (p:=⟨b,off+k*2,none⟩) hb).trans k0;have q1:=(Hd.cell (p:=⟨b,off+k*2+1,none⟩) hb).trans k1;clear k0 k1 Hz hcell
   cases Gn:zh l[k].1 l[k].2
   ·have Fq:=h_ Gn
    have HF:Hid (q9 l=false):=h_ (by
     unfold q9;rw[List.all_eq_false];exact⟨l[k],abg Hf,by rw[Gn];simp⟩)
    clear Gn
    go_wp2_with fail
    refine(ZZ _ _ _).mono ?_
    rintro e w1 ⟨rfl,Hb⟩;rw[Fq.out];go_wp2;go_ret
    exact⟨z8 HF.out.symm,by exact bel_⟩
   ·have Fq:=h_ Gn
    have HT':Hid (q9 (l.take (k+1))=true):=h_ (by
     unfold q9;rw[aax Hf,List.all_append];have:=HT.out;unfold q9 at this;rw[this];simp[Gn])
    clear Gn
    go_wp2_with fail
    refine(ZZ _ _ _).mono ?_
    rintro e w1 ⟨rfl,Hb⟩;rw[Fq.out];go_wp2;go_roundw
    case rel=>exact⟨k+1,by omega,by go_num,HT',by exact bel_⟩
    case measure=>simp[intOf];omega
  ·have gn:l.length<=k:=o_
   have h:=HT.out;rw[aaK gn] at h;have HF:=h_ h;clear h hcell;go_wp2;go_ret
   exact⟨z8 HF.out.symm,Hd⟩
theorem vV (v:Value) (ax ay bx by' cx cy:Int) (w:World) (h:RP w v [(ax,ay),(bx,by'),(cx,cy)]):
  CB_ 154 #[v] w (.bool (zh ax ay&&zh bx by'&&zh cx cy)):=
 (xx v _ w h).mono fun e w' ⟨he,hw⟩=>⟨he.trans (z8 (by simp[q9,Bool.and_assoc])),hw⟩
theorem Qe (ax ay bx by' cx cy:Int) (w:World) (ha:zh ax ay=true) (hb:zh bx by'=true) (hc:zh cx cy=true):
  Calls Tryz.prog 243 #[.agg #[.int .i64 ax,.int .i64 ay],.agg #[.int .i64 bx,.int .i64 by'],.agg #[.int .i64 cx,.int .i64 cy]] w
   fun e w'=>e= .returned (.int .i64 (q8 ax ay bx by' cx cy))/\Below w.heap.size w w':=by
 have h1:=zF ha;have h2:=zF hb;have h3:=zF hc;have m1:=kv (u:=bx -ax) (v:=cy -ay) o_ o_ o_ o_;have m2:=kv (u:=by' -ay) (v:=cx -ax) o_ o_ o_ o_;clear ha hb hc
 go_enter Tryz.func243,Tryz.ntmps243
 go_wp2;go_ret
 exact⟨rfl,by exact bel_⟩
theorem Q3 (ax ay bx by' cx cy:Int) (w:World) (ha:zh ax ay=true) (hb:zh bx by'=true) (hc:zh cx cy=true):
  Calls Tryz.prog 214 #[.agg #[.int .i64 ax,.int .i64 ay],.agg #[.int .i64 bx,.int .i64 by'],.agg #[.int .i64 cx,.int .i64 cy]] w
   fun e w'=>e= .returned (.int .i64 (q8 ax ay bx by' cx cy))/\Below w.heap.size w w':=by
 have h1:=zF ha;have h2:=zF hb;have h3:=zF hc;have m1:=kv (u:=bx -ax) (v:=cy -ay) o_ o_ o_ o_;have m2:=kv (u:=by' -ay) (v:=cx -ax) o_ o_ o_ o_;have HN:Hid ((zh ax ay&&zh bx by'&&zh cx cy)=true):=h_ (by rw[ha,hb,hc];rfl);clear ha hb hc
 go_enter Tryz.func214,Tryz.ntmps214
 go_wp2_with fail
 refine(vV _ ax ay bx by' cx cy _ (j6 (by simp) rfl rfl rfl (by simp[maxLen]))).mono ?_
 rintro e w1 ⟨rfl,Hb⟩;(have gl:=bcC Hb)
 rw[HN.out];go_wp2;go_ret
 exact⟨rfl,by exact bel_⟩
abbrev Pr:=Int×Int
def jH (p:Pr):Bool:=zh p.1 p.2
def qa (a b c:Pr):Int:=q8 a.1 a.2 b.1 b.2 c.1 c.2
def jh (a b c:Pr):Bool:=yI a.1 a.2 b.1 b.2 c.1 c.2
def qz (a b:Pr):Bool:=prB a.1 a.2 b.1 b.2
theorem yt {a b:Pr}:qz a b=true↔a=b:=kl
def ndI (ns:List Pr) (i:Int):Pr:=ns.getD i.toNat (0,0)
theorem qd (ns:List Pr) (k:Nat) (h:k<ns.length):ndI ns k=ns[k]:=by
 simp[ndI,List.getD,h]
def zt (ns:List Pr) (l:Pr):Bool:=
 decide (0<=l.1)&&decide (l.1<l.2)&&decide (l.2<ns.length)&&jH (ndI ns l.1)&&jH (ndI ns l.2)&& !(qz (ndI ns l.1) (ndI ns l.2))
theorem zZ {ns:List Pr} {l:Pr}:zt ns l=true↔0<=l.1/\l.1<l.2/\l.2<ns.length/\jH (ndI ns l.1)=true/\jH (ndI ns l.2)=true/\qz (ndI ns l.1) (ndI ns l.2)=false:=by
 simp[zt,and_assoc]
def jL (a b c d:Pr):Bool:=
 (qz a c&&qz b d||qz a d&&qz b c)||(jh a b c||jh a b d||jh c d a||jh c d b)||
  (decide (qa a b c*qa a b d<0)&&decide (qa c d a*qa c d b<0))
def qO (ns:List Pr) (l m:Pr):Bool:=zt ns l&&zt ns m&&jL (ndI ns l.1) (ndI ns l.2) (ndI ns m.1) (ndI ns m.2)
def onB (ns:List Pr) (l n:Pr):Bool:=zt ns l&&(qz n (ndI ns l.1)||qz n (ndI ns l.2)||jh (ndI ns l.1) (ndI ns l.2) n)
theorem x8 (a b:Pr):qz a b=qz b a:=by
 have h:∀a b:Pr,qz a b=true->qz b a=true:=fun a b h=>yt.2 (yt.1 h).symm
 cases h1:qz a b
 ·cases h2:qz b a
  ·rfl
  ·rw[h b a h2] at h1;cases h1
 ·rw[h a b h1]
theorem xB (a b c d:Pr):jL a b c d=jL c d a b:=by
 unfold jL;rw[x8 c a,x8 d b,x8 c b,x8 d a]
 cases qz a c<;>cases qz b d<;>cases qz a d<;>cases qz b c<;>cases jh a b c<;>cases jh a b d<;>cases jh c d a<;>cases jh c d b<;>simp[Bool.and_comm]
theorem xX (ns:List Pr) (l m:Pr):qO ns l m=qO ns m l:=by
 unfold qO;rw[xB,Bool.and_comm (zt ns l)]
theorem z46 (a b:Pr):qa a b a=0:=by simp[qa,q8]
theorem X0 (a b:Pr):qa a b b=0:=by
 unfold qa q8;rw[Int.mul_comm];omega
theorem vD (x y:Int):Int.sign x*Int.sign y<0↔x*y<0:=by
 rw[<-Int.sign_mul,Int.sign_neg_iff]
def Dis (ns:List Pr) (i:Nat):Prop:=∀a b:Nat,a<b->b<i->qz (ndI ns a) (ndI ns b)=false
def CrOk (ns ls:List Pr) (l:Pr) (i:Nat):Prop:=∀j:Nat,j<i->qO ns l (ndI ls j)=false
def OnOk (ns:List Pr) (l:Pr) (i:Nat):Prop:=∀j:Nat,j<i->(j:Int)≠l.1->(j:Int)≠l.2->onB ns l (ndI ns j)=false
def LdOk (ns ls:List Pr) (k:Nat):Prop:=zt ns (ndI ls k)=true/\CrOk ns ls (ndI ls k) k/\OnOk ns (ndI ls k) ns.length
def zC (ns ls:List Pr):Prop:=
 1<=ns.length/\ns.length<=12/\ls.length<=20/\q9 ns=true/\Dis ns ns.length/\∀k:Nat,k<ls.length->LdOk ns ls k
noncomputable def winB (ns ls:List Pr):Bool:= @decide (zC ns ls) (Classical.propDecidable _)
theorem zu {ns ls:List Pr}:winB ns ls=true↔zC ns ls:=by simp[winB]
theorem jO {ns ls:List Pr}:winB ns ls=false↔¬zC ns ls:=by simp[winB]
theorem z3J {ns:List Pr} (h:q9 ns=true):∀p∈ns,jH p=true:=by
 unfold q9 at h;rw[aaL] at h;exact h
theorem jY {ns:List Pr} (h:q9 ns=true) (k:Nat) (hk:k<ns.length):jH (ndI ns k)=true:=by
 rw[qd ns k hk];exact z3J h _ (abg hk)
theorem Dis.zero (ns:List Pr):Dis ns 0:=fun a b h hb=>absurd hb o_
theorem Dis.succ {ns:List Pr} {i:Nat} (h:Dis ns i) (hi:∀a:Nat,a<i->qz (ndI ns a) (ndI ns i)=false):Dis ns (i+1):=by
 intro a b ml hb
 rcases Nat.lt_succ_iff_lt_or_eq.1 hb with h1|h1
 ·exact h a b ml h1
 ·subst h1;exact hi a ml
theorem CrOk.zero (ns ls:List Pr) (l:Pr):CrOk ns ls l 0:=fun j hj=>absurd hj o_
theorem CrOk.succ {ns ls:List Pr} {l:Pr} {i:Nat} (h:CrOk ns ls l i) (hi:qO ns l (ndI ls i)=false):CrOk ns ls l (i+1):=by
 intro j hj
 rcases Nat.lt_succ_iff_lt_or_eq.1 hj with h1|h1
 ·exact h j h1
 ·subst h1;exact hi
theorem OnOk.zero (ns:List Pr) (l:Pr):OnOk ns l 0:=fun j hj=>absurd hj o_
theorem OnOk.succ {ns:List Pr} {l:Pr} {i:Nat} (h:OnOk ns l i) (hi:(i:Int)≠l.1->(i:Int)≠l.2->onB ns l (ndI ns i)=false):OnOk ns l (i+1):=by
 intro j hj
 rcases Nat.lt_succ_iff_lt_or_eq.1 hj with h1|h1
 ·exact h j h1
 ·subst h1;exact hi
theorem RP.formI {w:World} {v:Value} {l:List (Int×Int)} (h:RP w v l):∃A c,v= .slice A l.length c/\l.length<=c/\l.length<=maxLen/\
  (0<l.length->∃b off,A=some ⟨b,off,none⟩/\b<w.heap.size/\∀k:Nat,k<l.length->w.cell? ⟨b,off+k*2,none⟩=some (.int .i64 (ndI l k).1)/\w.cell? ⟨b,off+k*2+1,none⟩=some (.int .i64 (ndI l k).2)):=by
 obtain⟨A,c,h1,h2,h3,h4⟩:=h.form;refine⟨A,c,h1,h2,h3,fun hn=>?_⟩
 obtain⟨b,off,e1,e2,e3⟩:=h4 hn;exact⟨b,off,e1,e2,fun k hk=>by rw[qd l k hk];exact e3 k hk⟩
attribute [local go_sem ↓] zr zq zU zT
theorem Zi {ax ay bx by' cx cy:Int} (h:¬(zh ax ay=true/\zh bx by'=true/\zh cx cy=true)):yI ax ay bx by' cx cy=false:=by
 unfold yI
 cases h1:zh ax ay<;>cases h2:zh bx by'<;>cases h3:zh cx cy<;>simp_all
theorem vA (ax ay bx by' cx cy:Int) (w:World):
  Calls Tryz.prog 240 #[.agg #[.int .i64 ax,.int .i64 ay],.agg #[.int .i64 bx,.int .i64 by'],.agg #[.int .i64 cx,.int .i64 cy]] w
   fun e w'=>e= .returned (.bool (yI ax ay bx by' cx cy))/\Below w.heap.size w w':=by
 cases h1:zh ax ay
 ·have HR:=h_ (Zi (ax:=ax) (ay:=ay) (bx:=bx) (by':=by') (cx:=cx) (cy:=cy) (by rw[h1];simp))
  go_enter Tryz.func240,Tryz.ntmps240
  go_wp2_with fail
  refine(qT _ _ _).mono ?_
  rintro e w1 ⟨rfl,Hb⟩;rw[h1];go_wp2;go_ret
  exact⟨z8 HR.out.symm,by exact bel_⟩
 cases h2:zh bx by'
 ·have HR:=h_ (Zi (ax:=ax) (ay:=ay) (bx:=bx) (by':=by') (cx:=cx) (cy:=cy) (by rw[h2];simp))
  go_enter Tryz.func240,Tryz.ntmps240
  go_wp2_with fail
  refine(qT _ _ _).mono ?_
  rintro e w1 ⟨rfl,Hb⟩;(have gl:=bcC Hb);have H7:=Hb.size;(try simp at H7)
  rw[h1]
  go_wp2_with fail
  refine(qT _ _ _).mono ?_
  rintro e w2 ⟨rfl,Hh⟩;rw[h2];go_wp2;go_ret
  exact⟨z8 HR.out.symm,by exact bel_⟩
 cases h3:zh cx cy
 ·have HR:=h_ (Zi (ax:=ax) (ay:=ay) (bx:=bx) (by':=by') (cx:=cx) (cy:=cy) (by rw[h3];simp))
  go_enter Tryz.func240,Tryz.ntmps240
  go_wp2_with fail
  refine(qT _ _ _).mono ?_
  rintro e w1 ⟨rfl,Hb⟩;(have gl:=bcC Hb);have H7:=Hb.size;(try simp at H7);(try have Fr:=p2_ w w1)
  rw[h1]
  go_wp2_with fail
  refine(qT _ _ _).mono ?_
  rintro e w2 ⟨rfl,Hh⟩;(have gV:=bcC Hh);have Gp:=Hh.size;(try simp at Gp);(try have Gc:=p0_ w w2);(try have Gd:=p1_ w w2);(try have fu:=p2_ w w2)
  rw[h2]
  go_wp2_with fail
  refine(qT _ _ _).mono ?_
  rintro e w3 ⟨rfl,Hg⟩;rw[h3];go_wp2;go_ret
  exact⟨z8 HR.out.symm,by exact bel_⟩
 ·have HR:Hid (yI ax ay bx by' cx cy=(!(prB ax ay bx by')&& !(prB bx by' cx cy)&& !(prB ax ay cx cy)&&(q8 ax ay bx by' cx cy==0)&&inB cx (mn2 ax bx) (mx2 ax bx)&&inB cy (mn2 ay by') (mx2 ay by'))):=h_ (by unfold yI;rw[h1,h2,h3];rfl)
  go_enter Tryz.func240,Tryz.ntmps240
  go_wp2_with fail
  refine(qT _ _ _).mono ?_
  rintro e w1 ⟨rfl,Hb⟩;(have gl:=bcC Hb);have H7:=Hb.size;(try simp at H7);(try have gY:=p0_ w w1);(try have Gv:=p1_ w w1);(try have Fr:=p2_ w w1)
  rw[h1]
  go_wp2_with fail
  refine(qT _ _ _).mono ?_
  rintro e w2 ⟨rfl,Hh⟩;(have gV:=bcC Hh);have Gp:=Hh.size;(try simp at Gp);(try have Gc:=p0_ w w2);(try have Gd:=p1_ w w2);(try have fu:=p2_ w w2)
  rw[h2]
  go_wp2_with fail
  refine(qT _ _ _).mono ?_
  rintro e w3 ⟨rfl,Hg⟩;(have GK:=bcC Hg);have fC:=Hg.size;(try simp at fC);(try have F1:=p0_ w w3);(try have F2:=p1_ w w3);(try have Me:=p2_ w w3)
  rw[h3]
  go_wp2_with (first|(go_at_call 243;refine(Qe _ _ _ _ _ _ _ h1 h2 h3).mono ?_;rintro e w4 ⟨rfl,H5⟩;(have cf:=bcC H5))|(go_at_call 138;refine(qf _ _ _ _).mono ?_;rintro e w' ⟨rfl,rfl⟩))
  all_goals go_ret
  all_goals refine⟨z8 ?_,by exact bel_⟩
  all_goals rw[HR.out]
  all_goals simp_all
theorem kO (ax ay bx by' cx cy:Int) (w:World):
  Calls Tryz.prog 213 #[.agg #[.int .i64 ax,.int .i64 ay],.agg #[.int .i64 bx,.int .i64 by'],.agg #[.int .i64 cx,.int .i64 cy]] w
   fun e w'=>e= .returned (.bool (yI ax ay bx by' cx cy))/\Below w.heap.size w w':=by
 by_cases hv:zh ax ay=true/\zh bx by'=true/\zh cx cy=true
 ·obtain⟨h1,h2,h3⟩:=hv
  have HN:Hid ((zh ax ay&&zh bx by'&&zh cx cy)=true):=h_ (by rw[h1,h2,h3];rfl);have HR:Hid (yI ax ay bx by' cx cy=(!(prB ax ay bx by')&& !(prB bx by' cx cy)&& !(prB ax ay cx cy)&&(q8 ax ay bx by' cx cy==0)&&inB cx (mn2 ax bx) (mx2 ax bx)&&inB cy (mn2 ay by') (mx2 ay by'))):=h_ (by unfold yI;rw[h1,h2,h3];rfl)
  go_enter Tryz.func213,Tryz.ntmps213
  go_wp2_with fail
  refine(vV _ ax ay bx by' cx cy _ (j6 (by simp) rfl rfl rfl (by simp[maxLen]))).mono ?_
  rintro e w1 ⟨rfl,Hb⟩;(have gl:=bcC Hb);have H7:=Hb.size;(try simp at H7);(try have gY:=p0_ w w1);(try have Gv:=p1_ w w1);(try have Fr:=p2_ w w1)
  rw[HN.out]
  go_wp2_with (first|(go_at_call 214;refine(Q3 _ _ _ _ _ _ _ h1 h2 h3).mono ?_;rintro e w4 ⟨rfl,H5⟩;(have cf:=bcC H5))|(go_at_call 78;refine(yK _ _ _ _).mono ?_;rintro e w' ⟨rfl,rfl⟩))
  all_goals go_ret
  all_goals refine⟨z8 ?_,by exact bel_⟩
  all_goals rw[HR.out]
  all_goals simp_all
 ·have HN:Hid ((zh ax ay&&zh bx by'&&zh cx cy)=false):=h_ (by
   cases h1:zh ax ay<;>cases h2:zh bx by'<;>cases h3:zh cx cy<;>simp_all)
  have HR:=h_ (Zi hv);clear hv
  go_enter Tryz.func213,Tryz.ntmps213
  go_wp2_with fail
  refine(vV _ ax ay bx by' cx cy _ (j6 (by simp) rfl rfl rfl (by simp[maxLen]))).mono ?_
  rintro e w1 ⟨rfl,Hb⟩;rw[HN.out];go_wp2;go_ret
  exact⟨z8 HR.out.symm,by exact bel_⟩
attribute [local go_sem ↓] zr zq zU zT
theorem z1b {w:World} {l:List (Int×Int)} {cs:Array Value} {t:TypeId} {g n c:Nat} (hg:g=w.heap.size) (Fm:cs.toList=l.flatMap prc) (hn:n=l.length) (hc:c=l.length) (hm:l.length<=maxLen):
  RP (w.alloc (.cells cs t)).drew (.slice (some ⟨g,0,none⟩) n c) l:=
 RP.below (j6 hg Fm hn hc hm) ((aaj _ _).drew)
theorem J3 {ns:List Pr} {a b:Int} (h:¬(0<=a/\a<b/\b<ns.length)):zt ns (a,b)=false:=by
 cases hl:zt ns (a,b)
 ·rfl
 ·obtain⟨h1,h2,h3,_⟩:=zZ.1 hl
  exact absurd ⟨h1,h2,h3⟩ h
theorem z3n {ns:List Pr} {p q:Nat} (h1:p<q) (h2:q<ns.length):zt ns (p,q)=(zh (ndI ns p).1 (ndI ns p).2&&zh (ndI ns q).1 (ndI ns q).2&& !(prB (ndI ns p).1 (ndI ns p).2 (ndI ns q).1 (ndI ns q).2)):=by
 unfold zt;have e1:decide ((0:Int)<=(p:Int))=true:=aaQ o_;have e2:decide ((p:Int)<(q:Int))=true:=aaQ o_;have e3:decide ((q:Int)<(ns.length:Int))=true:=aaQ o_;rw[e1,e2,e3];simp[jH,qz]
theorem z3H (v:Value) (ax ay bx by':Int) (w:World) (h:RP w v [(ax,ay),(bx,by')]):
  CB_ 154 #[v] w (.bool (zh ax ay&&zh bx by')):=
 (xx v _ w h).mono fun e w' ⟨he,hw⟩=>⟨he.trans (z8 (by simp[q9])),hw⟩
theorem zO (x y:Int) (b:Bool) (w:World) (h:zh x y=b):
  CB_ 195 #[.agg #[.int .i64 x,.int .i64 y]] w (.bool b):=by
 subst h;exact qT x y w
theorem Zd (w:World) (gb off len c p q:Nat) (px py qx qy:Int) (hx:zh px py=true) (hy:zh qx qy=true) (g1:p<q) (g2:q<len) (hm:len<=2^63 -1) (Fn:gb<w.heap.size)
  (k0:w.cell? ⟨gb,off+p*2,none⟩=some (.int .i64 px)) (k1:w.cell? ⟨gb,off+p*2+1,none⟩=some (.int .i64 py))
  (j0:w.cell? ⟨gb,off+q*2,none⟩=some (.int .i64 qx)) (j1:w.cell? ⟨gb,off+q*2+1,none⟩=some (.int .i64 qy)):
  CB_ 196 #[.slice (some ⟨gb,off,none⟩) len c,.agg #[.int .i64 p,.int .i64 q]] w (.bool (true&&true&& !(prB px py qx qy))):=by
 have g3:p<len:=o_
 have i1:inB (p:Int) 0 ((len:Int) -1)=true:=zc.2 o_;have i2:inB (q:Int) 0 ((len:Int) -1)=true:=zc.2 o_;have n1:gb<w.heap.size+1:=o_
 go_enter Tryz.func196,Tryz.ntmps196
 go_wp2_with (go_at_call 138;refine(qf _ _ _ _).mono ?_;rintro e w' ⟨rfl,rfl⟩;first|rw[i1]|rw[i2])
 (refine z7 k_ k_ (fun hG=>?_))
 repeat (go_big_quiet_step (first|(go_at_call 195;exact zE (zO _ _ _ _ hx))|(go_at_call 195;exact zE (zO _ _ _ _ hy))))
 (refine wpQuiet_nil ?_);(clear hG);(rintro w1 ⟨⟨_,Hb⟩,rfl⟩);(try dsimp only)
 go_wp2;go_ret
 exact⟨z8 (by simp),by exact bel_⟩
theorem QE (w:World) (gb off len c p q:Nat) (px py qx qy:Int) (hx:zh px py=true) (hy:zh qx qy=false) (g1:p<q) (g2:q<len) (hm:len<=2^63 -1) (Fn:gb<w.heap.size)
  (k0:w.cell? ⟨gb,off+p*2,none⟩=some (.int .i64 px)) (k1:w.cell? ⟨gb,off+p*2+1,none⟩=some (.int .i64 py))
  (j0:w.cell? ⟨gb,off+q*2,none⟩=some (.int .i64 qx)) (j1:w.cell? ⟨gb,off+q*2+1,none⟩=some (.int .i64 qy)):
  CB_ 196 #[.slice (some ⟨gb,off,none⟩) len c,.agg #[.int .i64 p,.int .i64 q]] w (.bool (true&&false&& !(prB px py qx qy))):=by
 have g3:p<len:=o_
 have i1:inB (p:Int) 0 ((len:Int) -1)=true:=zc.2 o_;have i2:inB (q:Int) 0 ((len:Int) -1)=true:=zc.2 o_;have n1:gb<w.heap.size+1:=o_
 go_enter Tryz.func196,Tryz.ntmps196
 go_wp2_with (go_at_call 138;refine(qf _ _ _ _).mono ?_;rintro e w' ⟨rfl,rfl⟩;first|rw[i1]|rw[i2])
 (refine z7 k_ k_ (fun hG=>?_))
 repeat (go_big_quiet_step (first|(go_at_call 195;exact zE (zO _ _ _ _ hx))|(go_at_call 195;exact zE (zO _ _ _ _ hy))))
 (refine wpQuiet_nil ?_);(clear hG);(rintro w1 ⟨⟨_,Hb⟩,rfl⟩);(try dsimp only)
 go_wp2;go_ret
 exact⟨z8 (by simp),by exact bel_⟩
theorem QO (w:World) (gb off len c p q:Nat) (px py qx qy:Int) (hx:zh px py=false) (hy:zh qx qy=true) (g1:p<q) (g2:q<len) (hm:len<=2^63 -1) (Fn:gb<w.heap.size)
  (k0:w.cell? ⟨gb,off+p*2,none⟩=some (.int .i64 px)) (k1:w.cell? ⟨gb,off+p*2+1,none⟩=some (.int .i64 py))
  (j0:w.cell? ⟨gb,off+q*2,none⟩=some (.int .i64 qx)) (j1:w.cell? ⟨gb,off+q*2+1,none⟩=some (.int .i64 qy)):
  CB_ 196 #[.slice (some ⟨gb,off,none⟩) len c,.agg #[.int .i64 p,.int .i64 q]] w (.bool (false&&true&& !(prB px py qx qy))):=by
 have g3:p<len:=o_
 have i1:inB (p:Int) 0 ((len:Int) -1)=true:=zc.2 o_;have i2:inB (q:Int) 0 ((len:Int) -1)=true:=zc.2 o_;have n1:gb<w.heap.size+1:=o_
 go_enter Tryz.func196,Tryz.ntmps196
 go_wp2_with (go_at_call 138;refine(qf _ _ _ _).mono ?_;rintro e w' ⟨rfl,rfl⟩;first|rw[i1]|rw[i2])
 (refine z7 k_ k_ (fun hG=>?_))
 repeat (go_big_quiet_step (first|(go_at_call 195;exact zE (zO _ _ _ _ hx))|(go_at_call 195;exact zE (zO _ _ _ _ hy))))
 (refine wpQuiet_nil ?_);(clear hG);(rintro w1 ⟨⟨_,Hb⟩,rfl⟩);(try dsimp only)
 go_wp2;go_ret
 exact⟨z8 (by simp),by exact bel_⟩
theorem Qm (w:World) (gb off len c p q:Nat) (px py qx qy:Int) (hx:zh px py=false) (hy:zh qx qy=false) (g1:p<q) (g2:q<len) (hm:len<=2^63 -1) (Fn:gb<w.heap.size)
  (k0:w.cell? ⟨gb,off+p*2,none⟩=some (.int .i64 px)) (k1:w.cell? ⟨gb,off+p*2+1,none⟩=some (.int .i64 py))
  (j0:w.cell? ⟨gb,off+q*2,none⟩=some (.int .i64 qx)) (j1:w.cell? ⟨gb,off+q*2+1,none⟩=some (.int .i64 qy)):
  CB_ 196 #[.slice (some ⟨gb,off,none⟩) len c,.agg #[.int .i64 p,.int .i64 q]] w (.bool (false&&false&& !(prB px py qx qy))):=by
 have g3:p<len:=o_
 have i1:inB (p:Int) 0 ((len:Int) -1)=true:=zc.2 o_;have i2:inB (q:Int) 0 ((len:Int) -1)=true:=zc.2 o_;have n1:gb<w.heap.size+1:=o_
 go_enter Tryz.func196,Tryz.ntmps196
 go_wp2_with (go_at_call 138;refine(qf _ _ _ _).mono ?_;rintro e w' ⟨rfl,rfl⟩;first|rw[i1]|rw[i2])
 (refine z7 k_ k_ (fun hG=>?_))
 repeat (go_big_quiet_step (first|(go_at_call 195;exact zE (zO _ _ _ _ hx))|(go_at_call 195;exact zE (zO _ _ _ _ hy))))
 (refine wpQuiet_nil ?_);(clear hG);(rintro w1 ⟨⟨_,Hb⟩,rfl⟩);(try dsimp only)
 go_wp2;go_ret
 exact⟨z8 (by simp),by exact bel_⟩
theorem jt (v:Value) (ns:List Pr) (a b:Int) (w:World) (h:RP w v ns):
  CB_ 196 #[v,.agg #[.int .i64 a,.int .i64 b]] w (.bool (zt ns (a,b))):=by
 obtain⟨A,c,rfl,hc,hm,hcell⟩:=h.formI;unfold maxLen at hm;clear h
 by_cases hv:0<=a/\a<b/\b<ns.length
 ·obtain⟨h1,h2,h3⟩:=hv
  obtain⟨p,rfl⟩:=Int.eq_ofNat_of_zero_le h1;obtain⟨q,rfl⟩:=Int.eq_ofNat_of_zero_le (show 0<=b by omega);have g1:p<q:=o_
  have g2:q<ns.length:=o_
  have g3:p<ns.length:=o_
  obtain⟨gb,off,rfl,Fn,Hz⟩:=hcell o_;obtain⟨k0,k1⟩:=Hz p g3;obtain⟨j0,j1⟩:=Hz q g2;rw[z3n g1 g2]
  cases hx:zh (ndI ns p).1 (ndI ns p).2<;>cases hy:zh (ndI ns q).1 (ndI ns q).2
  ·exact Qm w gb off _ c p q _ _ _ _ hx hy g1 g2 hm Fn k0 k1 j0 j1
  ·exact QO w gb off _ c p q _ _ _ _ hx hy g1 g2 hm Fn k0 k1 j0 j1
  ·exact QE w gb off _ c p q _ _ _ _ hx hy g1 g2 hm Fn k0 k1 j0 j1
  ·exact Zd w gb off _ c p q _ _ _ _ hx hy g1 g2 hm Fn k0 k1 j0 j1
 ·have HR:=h_ (J3 hv)
  have HV:=h_ hv;clear hcell hv
  go_enter Tryz.func196,Tryz.ntmps196
  go_wp2_with (go_at_call 138;refine(qf _ _ _ _).mono ?_;rintro e w' ⟨rfl,rfl⟩)
  all_goals first|(go_ret;exact⟨z8 HR.out.symm,by exact bel_⟩)|(exfalso;refine HV.out ?_;simp_all[inB];omega)
theorem z8c (w:World) (gb off len c p q:Nat) (px py qx qy:Int) (hx:(zh px py&&zh qx qy)=true) (g1:p<q) (g2:q<len) (hm:len<=2^63 -1) (Fn:gb<w.heap.size)
  (k0:w.cell? ⟨gb,off+p*2,none⟩=some (.int .i64 px)) (k1:w.cell? ⟨gb,off+p*2+1,none⟩=some (.int .i64 py))
  (j0:w.cell? ⟨gb,off+q*2,none⟩=some (.int .i64 qx)) (j1:w.cell? ⟨gb,off+q*2+1,none⟩=some (.int .i64 qy)):
  CB_ 156 #[.slice (some ⟨gb,off,none⟩) len c,.agg #[.int .i64 p,.int .i64 q]] w (.bool (!(prB px py qx qy))):=by
 have g3:p<len:=o_
 have g4:(0:Int)<=(p:Int):=o_
 have g5:(p:Int)<(q:Int):=o_
 have g6:(q:Int)<(len:Int):=o_
 have n2:gb<w.heap.size+1+1:=o_
 have n3:w.heap.size<w.heap.size+1+1:=o_
 go_enter Tryz.func156,Tryz.ntmps156
 go_wp2_with fail
 (go_region_held3 (fun w'=>w'.cell? ⟨w.heap.size,0,none⟩=some (.int .i64 p)/\w'.cell? ⟨w.heap.size,1,none⟩=some (.int .i64 q)/\w'.cell? ⟨gb,off+p*2,none⟩=some (.int .i64 px)/\w'.cell? ⟨gb,off+p*2+1,none⟩=some (.int .i64 py)/\w'.cell? ⟨gb,off+q*2,none⟩=some (.int .i64 qx)/\w'.cell? ⟨gb,off+q*2+1,none⟩=some (.int .i64 qy))
   (go_keep)
   (first|(go_at_call 154;refine(z3H _ px py qx qy _ (z1b (by simp) rfl rfl rfl (by simp[maxLen]))).mono ?_;rw[hx];rintro e w1 ⟨rfl,Hb⟩;(have gl:=bdC Hb))))
 go_wp2;go_ret
 exact⟨z8 (by simp),by exact bel_⟩
theorem js (v:Value) (ns:List Pr) (a b:Int) (w:World) (h:RP w v ns) (Gn:q9 ns=true):
  CB_ 156 #[v,.agg #[.int .i64 a,.int .i64 b]] w (.bool (zt ns (a,b))):=by
 obtain⟨A,c,rfl,hc,hm,hcell⟩:=h.formI;unfold maxLen at hm;clear h
 by_cases hv:0<=a/\a<b/\b<ns.length
 ·obtain⟨h1,h2,h3⟩:=hv
  obtain⟨p,rfl⟩:=Int.eq_ofNat_of_zero_le h1;obtain⟨q,rfl⟩:=Int.eq_ofNat_of_zero_le (show 0<=b by omega);have g1:p<q:=o_
  have g2:q<ns.length:=o_
  have g3:p<ns.length:=o_
  obtain⟨gb,off,rfl,Fn,Hz⟩:=hcell o_;obtain⟨k0,k1⟩:=Hz p g3;obtain⟨j0,j1⟩:=Hz q g2;have hp:=jY Gn p g3;have hq:=jY Gn q g2;rw[z3n g1 g2];unfold jH at hp hq;rw[hp,hq];exact z8c w gb off _ c p q _ _ _ _ (by rw[hp,hq];rfl) g1 g2 hm Fn k0 k1 j0 j1
 ·have HR:=h_ (J3 hv)
  clear hcell
  go_enter Tryz.func156,Tryz.ntmps156
  go_wp2_with fail
  by_cases c1:0<=a
  ·by_cases c2:a<b
   ·have c3:¬b<ns.length:=fun c3=>hv ⟨c1,c2,c3⟩
    clear hv
    go_quiet (fail)
    go_wp2;go_ret
    exact⟨z8 HR.out.symm,by exact bel_⟩
   ·clear hv
    go_quiet (fail)
    go_wp2;go_ret
    exact⟨z8 HR.out.symm,by exact bel_⟩
  ·clear hv
   go_quiet (fail)
   go_wp2;go_ret
   exact⟨z8 HR.out.symm,by exact bel_⟩
end Go.Proofs.YtnjcpljhmhdhkaaGreat
