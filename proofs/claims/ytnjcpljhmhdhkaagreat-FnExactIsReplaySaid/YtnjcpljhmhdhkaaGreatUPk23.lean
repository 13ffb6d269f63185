/- part 23 -/
import Derived.Test.YtnjcpljhmhdhkaaGreatUPk21
import Derived.Test.YtnjcpljhmhdhkaaGreatUPk22
import Derived.Deep.RegionHeld3
set_option linter.unusedSimpArgs false
set_option linter.unusedVariables false
set_option maxRecDepth 100000
set_option maxHeartbeats 16000000
namespace Go.Proofs.YtnjcpljhmhdhkaaGreat
def z22 (adj:Nat->Nat->Bool) (ok:Nat->Bool) (F:Nat) (C:Nat->Prop):Prop:=∀g i,g<F->i<F->C g->adj g i=true->ok i=true->C i
def ke (adj:Nat->Nat->Bool) (ok:Nat->Bool) (F f i:Nat):Prop:=∀C:Nat->Prop,C f->z22 adj ok F C->C i
noncomputable def kA (adj:Nat->Nat->Bool) (ok:Nat->Bool) (F f:Nat):List Nat:=(List.range F).filter (fun i=> @decide (ke adj ok F f i) (Classical.propDecidable _))
theorem Z3 (adj:Nat->Nat->Bool) (ok:Nat->Bool) (F f:Nat):ke adj ok F f f:=fun C h _=>h
theorem vD (adj:Nat->Nat->Bool) (ok:Nat->Bool) (F f:Nat):z22 adj ok F (ke adj ok F f):=fun g i hg hi hr ha ho C h0 hC=>hC g i hg hi (hr C h0 hC) ha ho
theorem z59 {adj:Nat->Nat->Bool} {ok:Nat->Bool} {F f i:Nat}:i∈kA adj ok F f↔i<F/\ke adj ok F f i:=by
 unfold kA;rw[List.mem_filter,aaN];simp
def stpC (near:Nat->Nat) (ok:Nat->Bool) (s g:Nat):Nat:=if ok g&&(near g &&& s != 0) then s ||| 2^g else s
def rndC (near:Nat->Nat) (ok:Nat->Bool) (s:Nat):Nat->Nat
 |0=>s
 |k+1=>stpC near ok (rndC near ok s k) k
def qG (near:Nat->Nat) (ok:Nat->Bool) (F s:Nat):Nat->Nat
 |0=>s
 |k+1=>rndC near ok (qG near ok F s k) F
theorem z3n {near:Nat->Nat} {ok:Nat->Bool} {s g i:Nat} (h:s.testBit i=true):(stpC near ok s g).testBit i=true:=by
 unfold stpC
 split
 ·rw[aa2,h];rfl
 ·exact h
theorem Zn {near:Nat->Nat} {ok:Nat->Bool} {s i:Nat} (h:s.testBit i=true):∀k,(rndC near ok s k).testBit i=true
 |0=>h
 |k+1=>z3n (Zn h k)
theorem z1j {near:Nat->Nat} {ok:Nat->Bool} {s i k:Nat}:∀j,(rndC near ok s k).testBit i=true->(rndC near ok s (k+j)).testBit i=true
 |0,h=>h
 |j+1,h=>z3n (z1j j h)
theorem zab {near:Nat->Nat} {ok:Nat->Bool} {s g m:Nat} (hs:s<2^m) (hg:g<m):stpC near ok s g<2^m:=by
 unfold stpC
 split
 ·exact Nat.or_lt_two_pow hs (aa4 o_ hg)
 ·exact hs
theorem Vf {near:Nat->Nat} {ok:Nat->Bool} {s m:Nat} (hs:s<2^m):∀k,k<=m->rndC near ok s k<2^m
 |0,_=>hs
 |k+1,h=>zab (Vf hs k o_) o_
theorem Qe {near:Nat->Nat} {ok:Nat->Bool} {F s:Nat} (hs:s<2^F):∀k,qG near ok F s k<2^F
 |0=>hs
 |k+1=>Vf (Qe hs k) F (aaa _)
theorem JV {a b:Nat}:(a &&& b != 0)=true↔∃i,a.testBit i=true/\b.testBit i=true:=by
 rw[bne_iff_ne]
 constructor
 ·intro h
  apply abl
  intro hc
  apply h
  apply Nat.eq_of_testBit_eq
  intro i;rw[Nat.testBit_and,Nat.zero_testBit]
  cases h1:a.testBit i
  ·rfl
  ·cases h2:b.testBit i
   ·rfl
   ·exact absurd ⟨i,h1,h2⟩ hc
 ·rintro⟨i,h1,h2⟩ h
  have:(a &&& b).testBit i=true:=by rw[Nat.testBit_and,h1,h2];rfl
  rw[h,Nat.zero_testBit] at this
  cases this
theorem z7U {near:Nat->Nat} {ok:Nat->Bool} {s m:Nat} (hs:s<2^m) (h0:0<(memS s m).length):rndC near ok (qG near ok m s m) m=qG near ok m s m:=by
 apply abl
 intro hc
 have stay:∀k j,rndC near ok (qG near ok m s k) m=qG near ok m s k->qG near ok m s (k+j)=qG near ok m s k:=by
  intro k j hk
  induction j with
  |zero=>rfl
  |succ j ih=>show rndC near ok (qG near ok m s (k+j)) m=_;rw[ih,hk]
 have gr:∀k,k<=m->rndC near ok (qG near ok m s k) m≠qG near ok m s k:=by
  intro k hk he;have:=stay k (m -k) he;rw[show k+(m -k)=m by omega] at this;rw[this] at hc;exact hc he
 have grow:∀k,k<=m->k<(memS (qG near ok m s k) m).length :=by
  intro k
  induction k with
  |zero=>intro _;exact h0
  |succ k ih=>
   intro hk;have h1:=ih o_;have h2:=JH (s:=qG near ok m s k) (t:=rndC near ok (qG near ok m s k) m) (m:=m) (fun i hi=>Zn hi m) (Qe hs k) (Vf (Qe hs k) m (aaa _)) (fun e=>gr k o_ e.symm)
   show k+1<(memS (rndC near ok (qG near ok m s k) m) m).length
   omega
 have h1:=grow m (aaa _);have h2:=z2l (qG near ok m s m) m;omega
theorem z1M {near:Nat->Nat} {adj:Nat->Nat->Bool} {ok:Nat->Bool} {F f:Nat} (hn:∀g i,g<F->i<F->(near g).testBit i=adj g i) (fG:∀g,g<F->near g<2^F) (hsym:∀g i,adj g i=adj i g) (hf:f<F):
  memS (qG near ok F (2^f) F) F=kA adj ok F f:=by
 have hs:2^f<2^F:=aa4 o_ hf;have uD:0<(memS (2^f) F).length :=abi (a:=f) (by simp[memS,hf,abz]);have hfix:=z7U (near:=near) (ok:=ok) hs uD
 have sub:∀k i,(qG near ok F (2^f) k).testBit i=true->ke adj ok F f i:=by
  intro k
  induction k with
  |zero=>
   intro i hi;have FV:(2^f).testBit i=true:=hi;rw[aa3] at FV;have:f=i:=by simpa using FV
   subst this;exact Z3 adj ok F f
  |succ k ih=>
   have inner:∀j,j<=F->∀i,(rndC near ok (qG near ok F (2^f) k) j).testBit i=true->ke adj ok F f i:=by
    intro j
    induction j with
    |zero=>intro _ i hi;exact ih i hi
    |succ j ihj=>
     intro hj i hi;have ihj':=ihj o_;have FV:(stpC near ok (rndC near ok (qG near ok F (2^f) k) j) j).testBit i=true:=hi;unfold stpC at FV
     split at FV
     ·rename_i hc
      rw[aaH,JV] at hc;obtain⟨ho,x,CM,MS⟩:=hc;rw[aa2,aaI] at FV
      rcases FV with h|h
      ·exact ihj' i h
      ·rw[aa3] at h
       have:j=i:=by simpa using h
       subst this
       have hxF:x<F:=by
        apply abl
        intro hxF;rw[Nat.testBit_lt_two_pow (aaE (fG j o_) (aaF o_ o_))] at CM
        cases CM
       have ha:adj x j=true:=by rw[hsym,<-hn j x o_ hxF];exact CM
       exact vD adj ok F f x j hxF o_ (ihj' x MS) ha ho
     ·exact ihj' i FV
   exact inner F (aaa _)
 have keep:∀k,(qG near ok F (2^f) k).testBit f=true:=by
  intro k
  induction k with
  |zero=>exact abz
  |succ k ih=>exact Zn ih F
 have closed:z22 adj ok F (fun i=>(qG near ok F (2^f) F).testBit i=true):=by
  intro g i hg hi W7 ha ho
  have e:(rndC near ok (qG near ok F (2^f) F) (i+1)).testBit i=true:=by
   show(stpC near ok (rndC near ok (qG near ok F (2^f) F) i) i).testBit i=true
   unfold stpC
   have hc:(ok i&&(near i &&& rndC near ok (qG near ok F (2^f) F) i != 0))=true:=by
    rw[aaH,JV];exact⟨ho,g,by rw[hn i g hi hg,hsym];exact ha,Zn W7 i⟩
   rw[aao hc,aa2,abz,Bool.or_true]
  have:=z1j (F -(i+1)) e;rw[show i+1+(F -(i+1))=F by omega,hfix] at this;exact this
 unfold memS kA
 apply List.filter_congr
 intro i hi;rw[aa0]
 constructor
 ·intro h;simpa using sub F i h
 ·intro h
  have h':ke adj ok F f i:=by simpa using h
  exact h' _ (keep F) closed
structure Grow (adj:Nat->Nat->Bool) (ok:Nat->Bool) (F f:Nat) (todo:List Nat) (k j:Nat):Prop where
 nd:todo.Nodup
 lt:∀x∈todo,x<F
 f_:f∈todo
 re:∀x∈todo,ke adj ok F f x
 done:∀x∈todo.take k,∀i,i<F->adj x i=true->ok i=true->i∈todo
 part:∀x,todo[k]? =some x->∀i,i<j->i<F->adj x i=true->ok i=true->i∈todo
theorem Grow.start {adj:Nat->Nat->Bool} {ok:Nat->Bool} {F f:Nat} (hf:f<F):Grow adj ok F f [f] 0 0:=
 ⟨by simp,fun x hx=>by simp at hx;omega,by simp,fun x hx=>by simp at hx;subst hx;exact Z3 adj ok F x,fun x hx=>by simp at hx,fun x _ i hi=>by omega⟩
theorem Grow.skip {adj:Nat->Nat->Bool} {ok:Nat->Bool} {F f k j:Nat} {todo:List Nat} (h:Grow adj ok F f todo k j) (hn:∀x,todo[k]? =some x->adj x j=true->ok j=true->j∈todo):Grow adj ok F f todo k (j+1):=
 ⟨h.nd,h.lt,h.f_,h.re,h.done,fun x hx i hi hF ha ho=>by
  by_cases he:i=j
  ·subst he;exact hn x hx ha ho
  ·exact h.part x hx i o_ hF ha ho⟩
theorem Grow.push {adj:Nat->Nat->Bool} {ok:Nat->Bool} {F f k j:Nat} {todo:List Nat} (h:Grow adj ok F f todo k j) (hk:k<todo.length) (hj:j<F) (ha:adj todo[k] j=true) (ho:ok j=true) (hn:j∉todo):Grow adj ok F f (todo++[j]) k (j+1):=
 ⟨by rw[List.nodup_append];exact⟨h.nd,by simp,fun a ha' b hb=>by simp at hb;subst hb;exact fun hc=>hn (hc▸ha')⟩,
  fun x hx=>by
   rcases List.mem_append.1 hx with h1|h1
   ·exact h.lt x h1
   ·simp at h1;omega,
  abA _ h.f_,
  fun x hx=>by
   rcases List.mem_append.1 hx with h1|h1
   ·exact h.re x h1
   ·simp at h1
    subst h1;exact vD adj ok F f _ _ (h.lt _ (abh hk)) hj (h.re _ (abh hk)) ha ho,
  fun x hx i hi ha' cU=>by
   rw[List.take_append_of_le_length o_] at hx;exact abA _ (h.done x hx i hi ha' cU),
  fun x hx i hi hF ha' cU=>by
   rw[abd hk] at hx
   by_cases he:i=j
   ·subst he;simp
   ·exact abA _ (h.part x hx i o_ hF ha' cU)⟩
theorem Grow.next {adj:Nat->Nat->Bool} {ok:Nat->Bool} {F f k:Nat} {todo:List Nat} (h:Grow adj ok F f todo k F) (hk:k<todo.length):Grow adj ok F f todo (k+1) 0:=
 ⟨h.nd,h.lt,h.f_,h.re,fun x hx i hi ha ho=>by
  rw[aax hk,aaJ] at hx
  rcases hx with h1|h1
  ·exact h.done x h1 i hi ha ho
  ·simp at h1
   subst h1;exact h.part _ (aac hk) i hi hi ha ho,
  fun x _ i hi=>by omega⟩
theorem Grow.len {adj:Nat->Nat->Bool} {ok:Nat->Bool} {F f k j:Nat} {todo:List Nat} (h:Grow adj ok F f todo k j):todo.length<=F:=by
 have:=h.nd.length_le_of_subset (l₂:=List.range F) (fun x hx=>List.mem_range.2 (h.lt x hx));rw[abr] at this;exact this
theorem Grow.end_ {adj:Nat->Nat->Bool} {ok:Nat->Bool} {F f k j:Nat} {todo:List Nat} (h:Grow adj ok F f todo k j) (hk:todo.length<=k):(List.range F).filter (fun i=>decide (i∈todo))=kA adj ok F f:=by
 unfold kA
 apply List.filter_congr
 intro i hi;rw[aa0,aa5]
 constructor
 ·intro hm;simpa using h.re i hm
 ·intro hr
  have hr':ke adj ok F f i:=by simpa using hr
  refine hr' (fun x=>x∈todo) h.f_ (fun g x hg hx W7 ha ho=>h.done g ?_ x hx ha ho)
  rw[aaL hk];exact W7
theorem Jw {ns ls:List Pr} {cs:List Int}:∀m k,jd ns ls cs m k<0->∀j,k<=j->j<k+m->vu ns ls cs j=false
 |0,k,_,j,h1,h2=>absurd h2 o_
 |m+1,k,h,j,h1,h2=>by
  unfold jd at h
  split at h
  ·omega
  ·rename_i hc
   by_cases e:j=k
   ·subst e;simpa using hc
   ·exact Jw m (k+1) h j o_ o_
theorem XP {ns ls:List Pr} {cs:List Int}:∀m k,(∀j,k<=j->j<k+m->vu ns ls cs j=false)->jd ns ls cs m k= -1
 |0,k,_=>rfl
 |m+1,k,h=>by
  unfold jd;rw[aaq (by rw[h k (aaa _) o_];simp)];exact XP m (k+1) (fun j h1 h2=>h j o_ o_)
theorem vO {ns ls:List Pr} {L:List Int}:zY ns ls L=true↔zf ns ls=true/\L.length=(zg ns ls).length /\vi L 0 5=true/\∀f g,adjF ns ls f g->L.getD f 0≠L.getD g 0:=by
 unfold zY;rw[aaH,aa5]
 have Ho:∀k,zf ns ls=true->k<ls.length->(vu ns ls L k=true↔fcD ns ls (2*k)≠fcD ns ls (2*k+1)/\L.getD (fcD ns ls (2*k)) 0=L.getD (fcD ns ls (2*k+1)) 0):=by
  intro k hw hk;unfold vu;rw[aaH,aa5,aa5,yF hw o_,yF hw o_,aa6,aa6]
  constructor
  ·rintro⟨a,b⟩;exact⟨fun e=>a (by rw[e]),b⟩
  ·rintro⟨a,b⟩;exact⟨fun e=>a o_,b⟩
 constructor
 ·rintro⟨h1,h2⟩
  unfold jJ at h2;rw[aao h1] at h2;unfold qk at h1;rw[aaH,aaH,aa5] at h1;obtain⟨hw,h3,h4⟩:=h1;refine⟨hw,by rw[h3,zE hw],h4,?_⟩
  rintro f g ⟨d,hd,e1,e2,gr⟩ he;have hn:=Jw _ _ h2 (d/2) o_ o_;have hc:=Ho (d/2) hw o_;rw[hn] at hc;have FA:¬(fcD ns ls (2*(d/2))≠fcD ns ls (2*(d/2)+1)/\L.getD (fcD ns ls (2*(d/2))) 0=L.getD (fcD ns ls (2*(d/2)+1)) 0):=fun hh=>by have:=hc.2 hh;cases this
  apply FA
  rcases z0Y d with ⟨z1,z2⟩|⟨z1,z2⟩
  ·have w1:fcD ns ls (2*(d/2))=f:=(congrArg (fcD ns ls) z1).symm.trans e1
   have w2:fcD ns ls (2*(d/2)+1)=g:=(congrArg (fcD ns ls) z2).symm.trans e2;rw[w1,w2];exact⟨gr,he⟩
  ·have w1:fcD ns ls (2*(d/2)+1)=f:=(congrArg (fcD ns ls) z1).symm.trans e1
   have w2:fcD ns ls (2*(d/2))=g:=(congrArg (fcD ns ls) z2).symm.trans e2;rw[w1,w2];exact⟨fun e=>gr e.symm,he.symm⟩
 ·rintro⟨hw,h3,h4,h5⟩
  have hcb:qk ns ls L=true:=by
   unfold qk;rw[hw,zE hw,h3,h4];simp
  refine⟨hcb,?_⟩
  unfold jJ;rw[aao hcb,XP _ _ (fun j h1 h2=>?_)]
  ·omega
  ·cases hq:vu ns ls L j
   ·rfl
   ·obtain⟨a,b⟩:=(Ho j hw o_).1 hq
    have t0:twin (2*j)=2*j+1:=by unfold twin;rw[aao o_]
    exact absurd b (h5 _ _ ⟨2*j,by omega,rfl,by rw[t0],a⟩)
def swK (cs:List Int) (C:List Nat) (y x:Int):Nat->List Int
 |0=>cs
 |k+1=>(swK cs C y x k).set (C.getD k 0) (if cs.getD (C.getD k 0) 0=x then y else x)
theorem Zy (cs:List Int) (C:List Nat) (y x:Int):∀k,(swK cs C y x k).length =cs.length
 |0=>rfl
 |k+1=>by simp[swK,Zy cs C y x k]
theorem z6z {cs:List Int} {C:List Nat} {y x:Int} {g:Nat} (hg:g<cs.length):∀k,k<=C.length->(swK cs C y x k).getD g 0=if g∈C.take k then(if cs.getD g 0=x then y else x) else cs.getD g 0
 |0,_=>by simp[swK]
 |k+1,h=>by
  have ih:=z6z (cs:=cs) (C:=C) (y:=y) (x:=x) hg k o_;have hl:=Zy cs C y x k;have hc:C.getD k 0=C[k]:=by simp[List.getD,show k<C.length by omega]
  show((swK cs C y x k).set (C.getD k 0) _).getD g 0=_
  rw[hc,aax (show k<C.length by omega)]
  by_cases e:C[k]=g
  ·have h1:g∈C.take k++[C[k]]:=by simp[e]
   rw[aao h1,e];simp[List.getD,aa1,hl,hg]
  ·have h2:(g∈C.take k++[C[k]])↔g∈C.take k:=by
    rw[aaJ,aba];exact⟨fun h=>h.resolve_right (fun q=>e q.symm),.inl⟩
   have h3:((swK cs C y x k).set C[k] (if cs.getD C[k] 0=x then y else x)).getD g 0=(swK cs C y x k).getD g 0:=by simp[List.getD,aa1,e]
   rw[h3,ih]
   by_cases h4:g∈C.take k
   ·rw[aao h4,aao (h2.2 h4)]
   ·rw[aaq h4,aaq (fun q=>h4 (h2.1 q))]
def okX (cs:List Int) (f:Nat) (x:Int) (i:Nat):Bool:=decide (cs.getD i 0=cs.getD f 0)||decide (cs.getD i 0=x)
noncomputable def q7 (ns ls:List Pr) (cs:List Int) (f:Nat) (x:Int):List Nat:=kA (adB ns ls) (okX cs f x) cs.length f
noncomputable def yo (ns ls:List Pr) (cs:List Int) (f x:Int):Bool:=zY ns ls cs&&(inB f 0 ((cs.length:Int) -1)&&inB x 0 5)
noncomputable def Jl (ns ls:List Pr) (cs:List Int) (f x:Int):List Nat:=if yo ns ls cs f x then q7 ns ls cs f.toNat x else []
noncomputable def vy (ns ls:List Pr) (cs:List Int) (f x:Int):Bool:=yo ns ls cs f x&& !decide (cs.getD f.toNat 0=x)
noncomputable def vA (ns ls:List Pr) (cs:List Int) (f x:Int):List Int:=if vy ns ls cs f x then swK cs (q7 ns ls cs f.toNat x) (cs.getD f.toNat 0) x (q7 ns ls cs f.toNat x).length else cs
theorem yq {ns ls:List Pr} {cs:List Int} {f:Nat} {x:Int} {i:Nat}:i∈q7 ns ls cs f x↔i<cs.length/\ke (adB ns ls) (okX cs f x) cs.length f i:=z59
theorem z13 {ns ls:List Pr} {cs:List Int} {f:Nat} {x:Int} {i:Nat} (h:i∈q7 ns ls cs f x):i<cs.length:=(yq.1 h).1
theorem Qi {ns ls:List Pr} {cs:List Int} {f:Nat} {x:Int} (h:f<cs.length):f∈q7 ns ls cs f x:=yq.2 ⟨h,Z3 _ _ _ _⟩
theorem z1h {ns ls:List Pr} {cs:List Int} {f:Nat} {x:Int} {i:Nat} (h:i∈q7 ns ls cs f x):okX cs f x i=true:=by
 refine(yq.1 h).2 (fun i=>okX cs f x i=true) ?_ (fun g i _ _ _ _ ho=>ho)
 simp[okX]
theorem Vp (ns ls:List Pr) (cs:List Int) (f:Nat) (x:Int):(q7 ns ls cs f x).length <=cs.length:=by
 unfold q7 kA;have:=List.length_filter_le (fun i=> @decide (ke (adB ns ls) (okX cs f x) cs.length f i) (Classical.propDecidable _)) (List.range cs.length)
 simpa using this
theorem z1r (ns ls:List Pr) (cs:List Int) (f x:Int):(vA ns ls cs f x).length =cs.length:=by
 unfold vA;split
 ·exact Zy _ _ _ _ _
 ·rfl
theorem z3j {ns ls:List Pr} {cs:List Int} {f x:Int} (h:vy ns ls cs f x=true):zY ns ls (vA ns ls cs f x)=true:=by
 have hs:=h;unfold vy yo at h;rw[aaH,aaH,aaH,zd,zd] at h;obtain⟨⟨hp,hf,hx⟩,gr⟩:=h;obtain⟨F,rfl⟩:∃F:Nat,f=F:=⟨f.toNat,by omega⟩;have hF:F<cs.length:=o_
 rw[aa6] at gr;obtain⟨hw,hl,Gp,rj⟩:=vO.1 hp;obtain⟨W,_⟩:=zI hw;have hne':cs.getD F 0≠x:=by simpa using gr
 have e:vA ns ls cs F x=swK cs (q7 ns ls cs F x) (cs.getD F 0) x (q7 ns ls cs F x).length :=by
  unfold vA;rw[aao hs,aa6]
 have bJ:∀g,g<cs.length->(vA ns ls cs F x).getD g 0=if g∈q7 ns ls cs F x then(if cs.getD g 0=x then cs.getD F 0 else x) else cs.getD g 0:=by
  intro g hg;rw[e,z6z hg _ (aaa _),aaB]
 refine vO.2 ⟨hw,by rw[z1r];exact hl,?_,?_⟩
 ·rw[jS]
  intro j hj;rw[z1r] at hj;have mz:=jS.1 Gp j hj;rw[bJ j hj]
  split
  ·split
   ·exact jS.1 Gp F hF
   ·exact zd.2 hx
  ·exact mz
 ·intro a b uo
  have ha:a<cs.length:=by rw[hl];exact z5K W (kM uo)
  have hb:b<cs.length:=by rw[hl];exact z5K W uo
  have hc:=rj a b uo;have both:a∈q7 ns ls cs F x->okX cs F x b=true->b∈q7 ns ls cs F x:=fun h1 h2=>yq.2 ⟨hb,vD _ _ _ _ a b ha hb (yq.1 h1).2 (kf.2 uo) h2⟩
  have both':b∈q7 ns ls cs F x->okX cs F x a=true->a∈q7 ns ls cs F x:=fun h1 h2=>yq.2 ⟨ha,vD _ _ _ _ b a hb ha (yq.1 h1).2 (kf.2 (kM uo)) h2⟩
  rw[bJ a ha,bJ b hb]
  by_cases h1:a∈q7 ns ls cs F x
  ·have k1:=z1h h1
   by_cases h2:b∈q7 ns ls cs F x
   ·have k2:=z1h h2
    rw[aao h1,aao h2];unfold okX at k1 k2;simp only[aaI,aa5] at k1 k2
    split<;>split<;>omega
   ·have k2:okX cs F x b≠true:=fun q=>h2 (both h1 q)
    rw[aao h1,aaq h2];unfold okX at k2;simp only[aaI,aa5,not_or,ne_eq] at k2
    split
    ·exact fun q=>k2.1 q.symm
    ·exact fun q=>k2.2 q.symm
  ·by_cases h2:b∈q7 ns ls cs F x
   ·have k2:okX cs F x a≠true:=fun q=>h1 (both' h2 q)
    rw[aaq h1,aao h2];unfold okX at k2;simp only[aaI,aa5,not_or,ne_eq] at k2
    split
    ·exact k2.1
    ·exact k2.2
   ·rw[aaq h1,aaq h2];exact hc
open Go.RowKit
theorem qw (v0 v1 v2 v3 v4 v5 v6:Value) (S:St) (w:World) (h:RSt w v0 v1 v2 v3 v4 v5 v6 S) (hle:StLe S):
  Calls Tryz.prog 68 #[.agg #[v0,v1,v2,v3,v4,v5,v6,.int .i64 S.fund]] w (z5C S w):=by
 have gi:=h_ hle;obtain⟨w0,Ge⟩:∃u,u=(w.alloc (.cells #[v0,v1,v2,v3,v4,v5,v6,.int .i64 S.fund] 34)).alloc (.cells z8_ 34):=⟨_,rfl⟩;have FQ:Blk w0 w.heap.size 34 #[v0,v1,v2,v3,v4,v5,v6,.int .i64 S.fund]:=Ge▸(Blk.newAt rfl).alloc _;have bX:Blk w0 (w.heap.size+1) 34 z8_:=Ge▸Blk.newAt (by simp);have Hg:Below w.heap.size w w0:=Ge▸((aaj _ _).alloc (aaa _) _).alloc (by simp) _;have rf:w0.heap.size=w.heap.size+1+1:=by rw[Ge];simp
 have Bx:=h_ Ge;have hd:=h_ (h.below Hg);clear hle h Ge
 go_enter Tryz.func68,Tryz.ntmps68
 go_upto_region 1 with (fail)
 rw[<-Bx.out];clear Bx;obtain⟨x_0,x_1,x_2,x_3,x_4,x_5,x_6,x_7,x_f0,x_f1,x_f2,x_f3,x_f4,x_f5,x_f6,x_f7⟩:=FQ.b8;obtain⟨r_0,r_1,r_2,r_3,r_4,r_5,r_6,r_7,r_f0,r_f1,r_f2,r_f3,r_f4,r_f5,r_f6,r_f7⟩:=bX.b8;have q0:w.heap.size<w0.heap.size:=o_
 have q1:w.heap.size+1<w0.heap.size:=o_
 have bm:=h_ rf;have HR0:=h_ bX;clear rf FQ bX
 go_region_held3 (fun w'=>w'.cell? ⟨w.heap.size,0,none⟩=some (v0)/\w'.cell? ⟨w.heap.size,1,none⟩=some (v1)/\w'.cell? ⟨w.heap.size,2,none⟩=some (v2)/\w'.cell? ⟨w.heap.size,3,none⟩=some (v3)/\w'.cell? ⟨w.heap.size,4,none⟩=some (v4)/\w'.cell? ⟨w.heap.size,5,none⟩=some (v5)/\w'.cell? ⟨w.heap.size,6,none⟩=some (v6)/\w'.cell? ⟨w.heap.size,7,none⟩=some (.int .i64 S.fund))
  (go_keep)
  (first|(go_at_call 80;refine Calls.mono (Za _ _ _ _ _ S.D _ (hd.out.dr.below ?a1) gi.out.D) ?_;(case a1=>exact bel_);rintro e w1 ⟨A0,ac0,A1,ac1,A2,ac2,A3,ac3,A4,ac4,fs,rfl,Hj,h9⟩;(have Gb:=bdC h9);(have BD:=bdF h9);have H8:=h9.size;(try simp at H8);(try have gR:=p0_ w w1);(try have Gk:=p1_ w w1))|(go_at_call 133;refine Calls.mono (kx _ S.cs _ (hd.out.cs.below ?a2) gi.out.cs) ?_;(case a2=>exact bel_);rintro e w2 ⟨z5,rfl,Hm,He⟩;(obtain⟨A5,ac5,rfl,_⟩:=Hm.reads.form);(have fa:=bcC He);(have M0:=bcF He);have Gd:=He.size;(try simp at Gd);(try have gX:=p0_ w w2);(try have gY:=p1_ w w2))|(go_at_call 134;refine Calls.mono (yj _ S.ds _ (hd.out.ds.below ?a3) gi.out.ds) ?_;(case a3=>exact bel_);rintro e w3 ⟨z6,rfl,Hq,Hf⟩;(obtain⟨A6,ac6,rfl⟩:=zk.form Hq);(have fU:=bcC Hf);(have uu:=bcF Hf)))
 have rf:=bm.out;have k13:Below w1.heap.size w1 w3:=bel_
 have k23:Below w2.heap.size w2 w3:=bel_
 have k03:Below w0.heap.size w0 w3:=bel_
 have HST:Hid (OwnSt (w.heap.size+1+1) w3 (.slice A0 S.D.fn.length ac0) (.slice A1 S.D.fl.length ac1) (.slice A2 S.D.nn.length ac2) (.slice A3 S.D.nl.length ac3) (.slice A4 S.D.ss.length ac4) (.slice A5 S.cs.length ac5) (.slice A6 S.ds.length ac6) S fs):=h_ (by
  have Hr:=Hj.lt;have Ff:=World.ownsRow.lt Hm;have gp:=World.ownsRow.lt Hq
  try simp at Hr
  try simp at Ff
  try simp at gp
  refine⟨(Hj.kept k13).mono ?_,(OwnI.kept Hm k23).mono ?_,Hq.mono ?_,fun k h1 h2=>?_,fun k h1 h2=>?_,fun k h1 h2=>?_⟩
  ·exact sz_
  ·exact sz_
  ·exact sz_
  ·have:=Hr k h1;have:=Ff k h2;omega
  ·have:=Hr k h1;have:=gp k h2;omega
  ·have:=Ff k h1;have:=gp k h2;omega)
 have cH:=h_ (Hg.trans (k03.mono Hg.size));have n1:w.heap.size+1<w3.heap.size:=by have:=k03.size;omega
 have GK:=HR0.out.below k03 q1;obtain⟨t_0,t_1,t_2,t_3,t_4,t_5,t_6,t_7⟩:=GK.c8;clear Hg h9 He Hf Hj Hm Hq k13 k23 k03;go_wp2;refine bodyPost_ret (v:= .agg #[.slice A0 S.D.fn.length ac0,.slice A1 S.D.fl.length ac1,.slice A2 S.D.nn.length ac2,.slice A3 S.D.nl.length ac3,.slice A4 S.D.ss.length ac4,.slice A5 S.cs.length ac5,.slice A6 S.ds.length ac6,.int .i64 S.fund]) (by simp[results,Tryz.results68,go_sem,n1,t_0,t_1,t_2,t_3,t_4,t_5,t_6,t_7]) rfl ?_
 refine⟨A0,ac0,A1,ac1,A2,ac2,A3,ac3,A4,ac4,A5,ac5,A6,ac6,fs,rfl,?_,?_⟩
 ·refine OwnSt.mono (base:=w.heap.size+1+1) ?_ o_
  repeat (first|(with_reducible exact HST.out)|(with_reducible refine OwnSt.setLow ?_ ?_ _))
  all_goals exact sz_
 ·have Hc:=cH.out
  exact bel_
theorem OwnSt.setFar {base:Nat} {w:World} {a b c d e f g:Value} {S:St} {fs:List SF} (h:OwnSt base w a b c d e f g S fs) {p:Addr} (hp:¬qv a b c d e f g fs p.block) (u:Value):OwnSt base (w.setCell p u) a b c d e f g S fs:=
 h.turned (T:=fun k=>k=p.block) (Turns.ofGrown (qR w p u) (fun k hk=>by cases hk;rfl)) (fun k hk e=>hp (e▸hk))
structure OutSS (w:World) (v0 v1 v2 v3 v4 v5 v6:Value) (m:Int) (Z:Nat) (a b c d e f g:Value) (S:St) (fs:List SF) (wr:World):Prop where
 own:OwnSt (w.heap.size+1+1) wr a b c d e f g S fs
 X:Blk wr w.heap.size 34 #[v0,v1,v2,v3,v4,v5,v6,.int .i64 m]
 R:Blk wr (w.heap.size+1) 34 z8_
 Z_:Blk wr Z 34 #[a,b,c,d,e,f,g,.int .i64 S.fund]
 lt:w.heap.size+1<Z
 far:¬qv a b c d e f g fs Z
 blw:Below w.heap.size w wr
section
variable {w wr wr':World} {v0 v1 v2 v3 v4 v5 v6 a b c d e f g:Value} {m:Int} {Z:Nat} {S:St} {fs:List SF}
theorem OutSS.below (h:OutSS w v0 v1 v2 v3 v4 v5 v6 m Z a b c d e f g S fs wr) (hb:Below wr.heap.size wr wr'):OutSS w v0 v1 v2 v3 v4 v5 v6 m Z a b c d e f g S fs wr':=
 ⟨h.own.kept hb,h.X.below hb h.X.lt,h.R.below hb h.R.lt,h.Z_.below hb h.Z_.lt,h.lt,h.far,h.blw.trans (hb.mono h.blw.size)⟩
theorem OutSS.start {base:Nat} (ho:OwnSt base wr a b c d e f g S fs) (H9:w.heap.size+1+1<=base) (hX:Blk wr w.heap.size 34 #[v0,v1,v2,v3,v4,v5,v6,.int .i64 m]) (hR:Blk wr (w.heap.size+1) 34 z8_) (hb:Below w.heap.size w wr):
  OutSS w v0 v1 v2 v3 v4 v5 v6 m wr.heap.size a b c d e f g S fs (wr.alloc (.cells #[a,b,c,d,e,f,g,.int .i64 S.fund] 34)):=
 ⟨(ho.mono H9).alloc _,hX.alloc _,hR.alloc _,Blk.newAt rfl,hR.lt,fun hk=>by have:=(ho.lt _ hk).2;omega,hb.alloc hb.size _⟩
theorem OutSS.fin (h:OutSS w v0 v1 v2 v3 v4 v5 v6 m Z a b c d e f g S fs wr) (u0 u1 u2 u3 u4 u5 u6 u7:Value):
  OwnSt w.heap.size ((((((((wr.setCell ⟨w.heap.size+1,0,none⟩ u0).setCell ⟨w.heap.size+1,1,none⟩ u1).setCell ⟨w.heap.size+1,2,none⟩ u2).setCell ⟨w.heap.size+1,3,none⟩ u3).setCell ⟨w.heap.size+1,4,none⟩ u4).setCell ⟨w.heap.size+1,5,none⟩ u5).setCell ⟨w.heap.size+1,6,none⟩ u6).setCell ⟨w.heap.size+1,7,none⟩ u7) a b c d e f g S fs/\
  Below w.heap.size w ((((((((wr.setCell ⟨w.heap.size+1,0,none⟩ u0).setCell ⟨w.heap.size+1,1,none⟩ u1).setCell ⟨w.heap.size+1,2,none⟩ u2).setCell ⟨w.heap.size+1,3,none⟩ u3).setCell ⟨w.heap.size+1,4,none⟩ u4).setCell ⟨w.heap.size+1,5,none⟩ u5).setCell ⟨w.heap.size+1,6,none⟩ u6).setCell ⟨w.heap.size+1,7,none⟩ u7):=by
 have hR:¬qv a b c d e f g fs (w.heap.size+1):=fun hk=>by have:=(h.own.lt _ hk).1;omega
 have step:∀(W:World) (j:Nat) (u:Value),OwnSt w.heap.size W a b c d e f g S fs->OwnSt w.heap.size (W.setCell ⟨w.heap.size+1,j,none⟩ u) a b c d e f g S fs:=fun W j u hW=>hW.setFar (p:=⟨w.heap.size+1,j,none⟩) hR u
 have hs:w.heap.size<=w.heap.size+1:=Nat.le_succ _
 exact⟨step _ _ _ (step _ _ _ (step _ _ _ (step _ _ _ (step _ _ _ (step _ _ _ (step _ _ _ (step _ _ _ (h.own.mono o_)))))))),
  (((((((h.blw.setCell (p:=⟨w.heap.size+1,0,none⟩) hs u0).setCell (p:=⟨w.heap.size+1,1,none⟩) hs u1).setCell (p:=⟨w.heap.size+1,2,none⟩) hs u2).setCell (p:=⟨w.heap.size+1,3,none⟩) hs u3).setCell (p:=⟨w.heap.size+1,4,none⟩) hs u4).setCell (p:=⟨w.heap.size+1,5,none⟩) hs u5).setCell (p:=⟨w.heap.size+1,6,none⟩) hs u6).setCell (p:=⟨w.heap.size+1,7,none⟩) hs u7⟩
end
theorem z28 {base:Nat} {w wr:World} {a b c d e f g:Value} {S:St} {fs:List SF} (h:OwnSt base wr a b c d e f g S fs) (H9:w.heap.size+1+1<=base) (hb:Below w.heap.size w wr) (u0 u1 u2 u3 u4 u5 u6 u7:Value):
  OwnSt w.heap.size ((((((((wr.setCell ⟨w.heap.size+1,0,none⟩ u0).setCell ⟨w.heap.size+1,1,none⟩ u1).setCell ⟨w.heap.size+1,2,none⟩ u2).setCell ⟨w.heap.size+1,3,none⟩ u3).setCell ⟨w.heap.size+1,4,none⟩ u4).setCell ⟨w.heap.size+1,5,none⟩ u5).setCell ⟨w.heap.size+1,6,none⟩ u6).setCell ⟨w.heap.size+1,7,none⟩ u7) a b c d e f g S fs/\
  Below w.heap.size w ((((((((wr.setCell ⟨w.heap.size+1,0,none⟩ u0).setCell ⟨w.heap.size+1,1,none⟩ u1).setCell ⟨w.heap.size+1,2,none⟩ u2).setCell ⟨w.heap.size+1,3,none⟩ u3).setCell ⟨w.heap.size+1,4,none⟩ u4).setCell ⟨w.heap.size+1,5,none⟩ u5).setCell ⟨w.heap.size+1,6,none⟩ u6).setCell ⟨w.heap.size+1,7,none⟩ u7):=by
 have hR:¬qv a b c d e f g fs (w.heap.size+1):=fun hk=>by have:=(h.lt _ hk).1;omega
 have step:∀(W:World) (j:Nat) (u:Value),OwnSt w.heap.size W a b c d e f g S fs->OwnSt w.heap.size (W.setCell ⟨w.heap.size+1,j,none⟩ u) a b c d e f g S fs:=fun W j u hW=>hW.setFar (p:=⟨w.heap.size+1,j,none⟩) hR u
 have hs:w.heap.size<=w.heap.size+1:=Nat.le_succ _
 exact⟨step _ _ _ (step _ _ _ (step _ _ _ (step _ _ _ (step _ _ _ (step _ _ _ (step _ _ _ (step _ _ _ (h.mono o_)))))))),
  (((((((hb.setCell (p:=⟨w.heap.size+1,0,none⟩) hs u0).setCell (p:=⟨w.heap.size+1,1,none⟩) hs u1).setCell (p:=⟨w.heap.size+1,2,none⟩) hs u2).setCell (p:=⟨w.heap.size+1,3,none⟩) hs u3).setCell (p:=⟨w.heap.size+1,4,none⟩) hs u4).setCell (p:=⟨w.heap.size+1,5,none⟩) hs u5).setCell (p:=⟨w.heap.size+1,6,none⟩) hs u6).setCell (p:=⟨w.heap.size+1,7,none⟩) hs u7⟩
theorem x8 {a b c d:List Pr}:qL a b c d=true↔a=c/\b=d:=by simp[qL]
theorem ks {nn nl N L:List Pr} {s:Sp} {r:List Sp}:qT nn nl N L (s::r)=true↔(s.ns=N/\s.ls=L)/\vx N L s.k s.a s.b=true/\qT nn nl (yh N L s.k s.a s.b) (yd N L s.k s.a s.b) r=true:=by
 rw[qT,aaH,aaH,x8]
theorem Qf:∀(ss:List Sp) (nn nl N L:List Pr) (s:Sp),qT nn nl N L (ss++[s])=true↔qT s.ns s.ls N L ss=true/\vx s.ns s.ls s.k s.a s.b=true/\nn=yh s.ns s.ls s.k s.a s.b/\nl=yd s.ns s.ls s.k s.a s.b
 | [],nn,nl,N,L,s=>by
  rw[List.nil_append,ks,qT,qT,x8,x8]
  constructor
  ·rintro⟨⟨rfl,rfl⟩,h1,h2,h3⟩;exact⟨⟨rfl,rfl⟩,h1,h2,h3⟩
  ·rintro⟨⟨rfl,rfl⟩,h1,h2,h3⟩;exact⟨⟨rfl,rfl⟩,h1,h2,h3⟩
 |t::ss,nn,nl,N,L,s=>by
  rw[List.cons_append,ks,ks,Qf ss]
  constructor
  ·rintro⟨h1,h2,h3,h4⟩;exact⟨⟨h1,h2,h3⟩,h4⟩
  ·rintro⟨⟨h1,h2,h3⟩,h4⟩;exact⟨h1,h2,h3,h4⟩
theorem Zm {D:Dr}:okD D=true↔zL D.fn D.fl/\D.ss.length<=40/\qT D.nn D.nl D.fn D.fl D.ss=true:=by
 unfold okD;rw[aaH,aaH,zD,aa5]
theorem zaK {D:Dr} (h:okD D=true) (k a b:Int):okD (ju D k a b)=true:=by
 by_cases hc:zS D k a b=true
 ·rw[Zb hc]
  unfold zS at hc;rw[aaH,aaH,aa5] at hc;obtain⟨h1,h2,h3⟩:=Zm.1 h;rw[Zm];refine⟨h1,by simp;omega,?_⟩
  rw[Qf];exact⟨h3,hc.2.2,rfl,rfl⟩
 ·rw[yP (by simpa using hc)];exact h
theorem z8s {D:Dr} (h:okD D=true):okD (j6 D)=true:=by
 by_cases h0:D.ss.length=0
 ·rw[(yX (.inr h0)).1];exact h
 ·obtain⟨k,hk⟩:∃k,D.ss.length=k+1:=⟨D.ss.length -1,by omega⟩
  have bj:k<D.ss.length:=o_
  rw[(xh h hk D.ss[k] (aac bj)).1];obtain⟨h1,h2,h3⟩:=Zm.1 h
  have e:D.ss=D.ss.take k++[D.ss[k]]:=by
   rw[<-aax bj,aaL o_]
  rw[e,Qf] at h3;rw[Zm];exact⟨h1,by simp;omega,h3.1⟩
theorem z8I {ns ls:List Pr} (h:zL ns ls) (k a b:Int):zL (yh ns ls k a b) (yd ns ls k a b):=by
 unfold yh yd
 by_cases h1:k=1
 ·rw[aaq o_,aao h1];exact z85 h a b
 ·by_cases h2:k=2
  ·rw[aaq o_,aaq h1,aao h2];exact z7P h a
  ·by_cases h3:k=3
   ·rw[aao h3,aaq h1,aaq h2,aao h3]
    unfold qr qp
    by_cases hj:qY ns ls a=true
    ·rw[aao hj,aao hj]
     unfold qY at hj;rw[aaH] at hj;exact zD.1 hj.2
    ·rw[aaq hj,aaq hj];exact h
   ·rw[aaq h3,aaq h1,aaq h2,aaq h3];exact h
theorem Vo:∀(ss:List Sp) (nn nl N L:List Pr),zL N L->qT nn nl N L ss=true->zL nn nl/\∀k (hk:k<ss.length),zL ss[k].ns ss[k].ls
 | [],nn,nl,N,L,h,h1=>by
  rw[qT,x8] at h1;obtain⟨rfl,rfl⟩:=h1;exact⟨h,fun k hk=>absurd hk (by simp)⟩
 |s::r,nn,nl,N,L,h,h1=>by
  obtain⟨⟨h2,h3⟩,h4,h5⟩:=ks.1 h1;obtain⟨h6,h7⟩:=Vo r nn nl _ _ (z8I h s.k s.a s.b) h5;refine⟨h6,fun k hk=>?_⟩
  cases k with
  |zero=>rw[<-h2,<-h3] at h;exact h
  |succ k=>exact h7 k (by simpa using hk)
theorem z6u:∀(ss:List Sp),(∀k (hk:k<ss.length),zL ss[k].ns ss[k].ls)->sumT ss<=32*ss.length
 | [],_=>by simp[sumT]
 |s::r,h=>by
  have h0:=h 0 (by simp);have h1:=z6u r (fun k hk=>h (k+1) (by simp;omega));have h2:=h0.2.1;have h3:=h0.2.2.1;simp at h2 h3
  simp only[sumT,aaV]
  omega
theorem zb3 {D:Dr} (h:okD D=true):DrLe D:=by
 obtain⟨h1,h2,h3⟩:=Zm.1 h;obtain⟨h4,h5⟩:=Vo D.ss _ _ _ _ h1 h3;have h6:=z6u D.ss h5;have a1:=h1.2.1;have a2:=h1.2.2.1;have a3:=h4.2.1;have a4:=h4.2.2.1;exact⟨by omega,by omega,by omega,by omega,by omega,fun k hk=>by have:=(h5 k hk).2.1;have:=(h5 k hk).2.2.1;omega,by omega⟩
end Go.Proofs.YtnjcpljhmhdhkaaGreat
