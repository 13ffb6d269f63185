/- part 10 -/
import Derived.Test.YtnjcpljhmhdhkaaGreatTPk8
import Derived.Test.YtnjcpljhmhdhkaaGreatTPk9
set_option linter.unusedSimpArgs false
set_option linter.unusedVariables false
set_option maxRecDepth 100000
set_option maxHeartbeats 4000000
namespace Go.Proofs.YtnjcpljhmhdhkaaGreat
theorem z2F {bf:Nat->Bool} {d e:Nat} {G:List Nat}:e∈insN bf d G↔e=d∨e∈G:=by
 constructor
 ·exact X5
 ·intro h
  unfold insN;rw[aaI,List.mem_cons]
  rcases h with h|h
  ·exact .inr (.inl h)
  ·rw[<-abo (posN bf G G.length) G,aaI] at h
   rcases h with h|h
   ·exact .inl h
   ·exact .inr (.inr h)
theorem Xf {bf:Nat->Bool} {d:Nat} {G:List Nat} (h:G.Nodup) (hd:d∉G):(insN bf d G).Nodup :=by
 unfold insN;have hs:=abo (posN bf G G.length) G;generalize G.take (posN bf G G.length)=a at*;generalize G.drop (posN bf G G.length)=b at*;subst hs;rw[List.nodup_append] at h⊢;rw[aaI,not_or] at hd;obtain⟨h1,h2,h3⟩:=h;refine⟨h1,List.nodup_cons.2 ⟨hd.2,h2⟩,fun x hx y hy=>?_⟩
 rcases List.mem_cons.1 hy with rfl|hy
 ·rintro rfl;exact hd.1 hx
 ·exact h3 x hx y hy
theorem yf (ns ls:List Pr) (k:Nat):∀(m e:Nat),e∈ardS ns ls k m↔e<m/\zd ls e=k
 |0,e=>by simp[ardS]
 |m+1,e=>by
  by_cases h:zd ls m=k
  ·rw[kC h,z2F,yf ns ls k m]
   constructor
   ·rintro(rfl|⟨h1,h2⟩)
    ·exact⟨by omega,h⟩
    ·exact⟨by omega,h2⟩
   ·rintro⟨h1,h2⟩
    by_cases he:e=m
    ·exact .inl he
    ·exact .inr ⟨by omega,h2⟩
  ·rw[Qj h,yf ns ls k m]
   constructor
   ·rintro⟨h1,h2⟩;exact⟨by omega,h2⟩
   ·rintro⟨h1,h2⟩
    refine⟨?_,h2⟩
    by_cases he:e=m
    ·subst he;exact absurd h2 h
    ·omega
theorem vS (ns ls:List Pr) (k:Nat):∀m,(ardS ns ls k m).Nodup
 |0=>by simp[ardS]
 |m+1=>by
  by_cases h:zd ls m=k
  ·rw[kC h]
   exact Xf (vS ns ls k m) (fun hm=>by have:=((yf ns ls k m m).1 hm).1;omega)
  ·rw[Qj h];exact vS ns ls k m
def twin (d:Nat):Nat:=if d%2=0 then d+1 else d -1
theorem vF (d:Nat):twin (twin d)=d:=by unfold twin;split<;>split<;>omega
theorem jC {d m:Nat} (h:d<2*m):twin d<2*m:=by unfold twin;split<;>omega
theorem jz (ls:List Pr) (d:Nat):zd ls (twin d)=dTo ls d:=by
 unfold zd dTo twin
 by_cases h:d%2=0
 ·rw[aao h,aao o_,aaq o_,show(d+1)/2=d/2 by omega]
 ·rw[aaq h,aaq o_,aao o_,show(d -1)/2=d/2 by omega]
theorem z3o (ls:List Pr) (d:Nat):dTo ls (twin d)=zd ls d:=by
 have:=jz ls (twin d);rw[vF] at this;exact this.symm
def qK (ns ls:List Pr) (d:Nat):List Nat:=ardS ns ls (zd ls d).toNat (2*ls.length)
def vf (ns ls:List Pr) (d:Nat):Nat:=(qK ns ls d).getD (((qK ns ls d).idxOf d+(qK ns ls d).length -1)%(qK ns ls d).length) 0
theorem qL {ns ls:List Pr} (Hr:∀j:Nat,j<ls.length->zt ns (ndI ls j)=true) {d:Nat} (hd:d<2*ls.length):∃t:Nat,zd ls d=(t:Int)/\t<ns.length:=by
 have:=jM Hr (jC hd);rw[z3o] at this;exact this
theorem z1o {i j n:Nat} (hi:i<n) (hj:j<n) (h:(i+n -1)%n=(j+n -1)%n):i=j:=by
 rcases abv i with rfl|hi0
 ·rcases abv j with rfl|hj0
  ·rfl
  ·rw[show 0+n -1=n -1 by omega,abu o_,show j+n -1=(j -1)+n by omega,Nat.add_mod_right,abu o_] at h
   omega
 ·rcases abv j with rfl|hj0
  ·rw[show 0+n -1=n -1 by omega,abu (show n -1<n by omega),show i+n -1=(i -1)+n by omega,Nat.add_mod_right,abu (show i -1<n by omega)] at h
   omega
  ·rw[show i+n -1=(i -1)+n by omega,show j+n -1=(j -1)+n by omega,Nat.add_mod_right,Nat.add_mod_right,abu (show i -1<n by omega),abu (show j -1<n by omega)] at h
   omega
section
variable {ns ls:List Pr} (Hr:∀j:Nat,j<ls.length->zt ns (ndI ls j)=true)
include Hr
theorem Vc {d:Nat} (hd:d<2*ls.length) (e:Nat):e∈qK ns ls d↔e<2*ls.length/\zd ls e=zd ls d:=by
 obtain⟨t,ht,_⟩:=qL Hr hd;unfold qK;rw[yf,ht,aa5]
theorem ky {d:Nat} (hd:d<2*ls.length):d∈qK ns ls d:=(Vc Hr hd d).2 ⟨hd,rfl⟩
theorem z24 {d:Nat} (hd:d<2*ls.length):vf ns ls d∈qK ns ls d:=by
 have h:=abh (ky Hr hd);unfold vf;have hk:((qK ns ls d).idxOf d+(qK ns ls d).length -1)%(qK ns ls d).length <(qK ns ls d).length :=Nat.mod_lt _ h;rw[List.getD,aac hk];exact abg hk
theorem z8t {d:Nat} (hd:d<2*ls.length):vf ns ls d<2*ls.length:=((Vc Hr hd _).1 (z24 Hr hd)).1
theorem ZC {d:Nat} (hd:d<2*ls.length):zd ls (vf ns ls d)=zd ls d:=((Vc Hr hd _).1 (z24 Hr hd)).2
theorem z6M {d e:Nat} (hd:d<2*ls.length) (he:e<2*ls.length) (h:vf ns ls d=vf ns ls e):d=e:=by
 have hf:zd ls d=zd ls e:=by rw[<-ZC Hr hd,h,ZC Hr he]
 have hr:qK ns ls d=qK ns ls e:=by unfold qK;rw[hf]
 have h1:=ky Hr hd;have h2:=ky Hr he;rw[hr] at h1;have hp:=abh h2;have hn:(qK ns ls e).Nodup :=vS _ _ _ _;unfold vf at h;rw[hr] at h;have k1:((qK ns ls e).idxOf d+(qK ns ls e).length -1)%(qK ns ls e).length <(qK ns ls e).length :=Nat.mod_lt _ hp;have k2:((qK ns ls e).idxOf e+(qK ns ls e).length -1)%(qK ns ls e).length <(qK ns ls e).length :=Nat.mod_lt _ hp;rw[List.getD,List.getD,aac k1,aac k2] at h;simp only[Option.getD_some] at h
 have hi:=(List.getElem_inj hn).1 h;have hx:=z1o (abt h1) (abt h2) hi;have g1:=List.getElem_idxOf (abt h1);have g2:=List.getElem_idxOf (abt h2);refine g1.symm.trans (Eq.trans ?_ g2)
 simp only[hx]
end
theorem pigeon:∀(n:Nat) (f:Nat->Nat),(∀i,i<=n->f i<n)->∃i j,i<j/\j<=n/\f i=f j
 |0,f,h=>absurd (h 0 (aaa _)) o_
 |n+1,f,h=>by
  by_cases hc:∃i,i<n+1/\f i=f (n+1)
  ·obtain⟨i,hi,e⟩:=hc
   exact⟨i,n+1,hi,aaa _,e⟩
  ·have Hv:∀i,i<n+1->f i≠f (n+1):=fun i hi e=>hc ⟨i,hi,e⟩
   have hl:=h (n+1) (aaa _)
   obtain⟨i,j,h1,h2,h3⟩:=pigeon n (fun i=>if f i<f (n+1) then f i else f i -1) (fun i hi=>by
    have h4:=Hv i o_;have h5:=h i o_
    show(if f i<f (n+1) then f i else f i -1)<n
    split<;>omega)
   refine⟨i,j,h1,by omega,?_⟩
   have h4:=Hv i o_;have h5:=Hv j o_;have h3':(if f i<f (n+1) then f i else f i -1)=(if f j<f (n+1) then f j else f j -1):=h3
   split at h3'<;>split at h3'<;>omega
def j4 (ns ls:List Pr) (d:Nat):Nat:=vf ns ls (twin d)
section
variable {ns ls:List Pr} (Hr:∀j:Nat,j<ls.length->zt ns (ndI ls j)=true)
include Hr
theorem z1m {d:Nat} (hd:d<2*ls.length):j4 ns ls d<2*ls.length:=z8t Hr (jC hd)
theorem z7f {d e:Nat} (hd:d<2*ls.length) (he:e<2*ls.length) (h:j4 ns ls d=j4 ns ls e):d=e:=by
 have:=z6M Hr (jC hd) (jC he) h;rw[<-vF d,this,vF]
end
def orbD (ns ls:List Pr) (d:Nat):Nat->Nat
 |0=>d
 |k+1=>j4 ns ls (orbD ns ls d k)
section
variable {ns ls:List Pr} (Hr:∀j:Nat,j<ls.length->zt ns (ndI ls j)=true)
include Hr
theorem xy {d:Nat} (hd:d<2*ls.length):∀k,orbD ns ls d k<2*ls.length
 |0=>hd
 |k+1=>z1m Hr (xy hd k)
theorem Xk {d:Nat} (hd:d<2*ls.length):∀i j,orbD ns ls d i=orbD ns ls d (i+j)->orbD ns ls d j=d
 |0,j,h=>by rw[aaF] at h;exact h.symm
 |i+1,j,h=>by
  refine Xk hd i j ?_
  rw[show i+1+j=(i+j)+1 by omega] at h;exact z7f Hr (xy Hr hd i) (xy Hr hd (i+j)) h
theorem z5U {d:Nat} (hd:d<2*ls.length):∃p,0<p/\p<=2*ls.length/\orbD ns ls d p=d:=by
 obtain⟨i,j,h1,h2,h3⟩:=pigeon (2*ls.length) (orbD ns ls d) (fun i _=>xy Hr hd i);refine⟨j -i,by omega,by omega,Xk Hr hd i (j -i) ?_⟩
 rw[h3,show i+(j -i)=j by omega]
end
def perF (ns ls:List Pr) (d:Nat):Nat->Nat->Nat
 |0,k=>k
 |m+1,k=>if orbD ns ls d k=d then k else perF ns ls d m (k+1)
def perD (ns ls:List Pr) (d:Nat):Nat:=perF ns ls d (2*ls.length) 1
theorem z0m (ns ls:List Pr) (d:Nat):∀(m k:Nat),(∃p,k<=p/\p<k+m/\orbD ns ls d p=d)->
  k<=perF ns ls d m k/\perF ns ls d m k<k+m/\orbD ns ls d (perF ns ls d m k)=d/\∀j,k<=j->j<perF ns ls d m k->orbD ns ls d j≠d
 |0,k,⟨p,h1,h2,_⟩=>absurd h2 o_
 |m+1,k,⟨p,h1,h2,h3⟩=>by
  unfold perF
  split
  ·rename_i h
   exact⟨aaa _,by omega,h,fun j hj Fb=>by omega⟩
  ·rename_i h
   have hp:k≠p:=fun e=>h (e▸h3)
   obtain⟨g1,g2,g3,g4⟩:=z0m ns ls d m (k+1) ⟨p,by omega,by omega,h3⟩;refine⟨by omega,by omega,g3,fun j hj Fb=>?_⟩
   by_cases e:j=k
   ·subst e;exact h
   ·exact g4 j o_ Fb
theorem kw {ns ls:List Pr} (Hr:∀j:Nat,j<ls.length->zt ns (ndI ls j)=true) {d:Nat} (hd:d<2*ls.length):
  0<perD ns ls d/\perD ns ls d<=2*ls.length/\orbD ns ls d (perD ns ls d)=d/\∀j,0<j->j<perD ns ls d->orbD ns ls d j≠d:=by
 obtain⟨p,h1,h2,h3⟩:=z5U Hr hd;obtain⟨g1,g2,g3,g4⟩:=z0m ns ls d (2*ls.length) 1 ⟨p,by omega,by omega,h3⟩;exact⟨g1,by unfold perD;omega,g3,fun j hj Fb=>g4 j o_ Fb⟩
def jw (ns ls:List Pr) (d k:Nat):List Nat:=(List.range k).map (orbD ns ls d)
theorem VF (ns ls:List Pr) (d k:Nat):jw ns ls d (k+1)=jw ns ls d k++[orbD ns ls d k]:=by simp[jw,abe]
theorem kZ (ns ls:List Pr) (d k:Nat):(jw ns ls d k).length =k:=by simp[jw]
def qG (ns ls:List Pr) (d:Nat):List Nat:=jw ns ls d (perD ns ls d)
def isoK (lt:Nat->Nat->Bool) (G:List Nat) (i:Nat):List Nat:=(G.take i).foldl (fun S d=>insN (lt d) d S) []
theorem XK (lt:Nat->Nat->Bool) (G:List Nat):isoK lt G 0=[]:=rfl
theorem ZH (lt:Nat->Nat->Bool) (G:List Nat) (i:Nat) (h:i<G.length):isoK lt G (i+1)=insN (lt G[i]) G[i] (isoK lt G i):=by
 unfold isoK;rw[aax h,List.foldl_append];rfl
theorem jE (lt:Nat->Nat->Bool) (G:List Nat):∀i,i<=G.length->(isoK lt G i).length =i
 |0,_=>rfl
 |i+1,h=>by rw[ZH lt G i o_,Ja,jE lt G i o_]
def isoR (lt:Nat->Nat->Bool) (G:List Nat) (i p:Nat):List Int:=gapI (isoK lt G i) p ((G.getD i 0:Nat):Int)++natI (G.drop (i+1))
def isoH (lt:Nat->Nat->Bool) (G:List Nat) (i:Nat):List Int:=natI (isoK lt G i)++natI (G.drop i)
theorem ZM (lt:Nat->Nat->Bool) (G:List Nat):isoH lt G 0=natI G:=by simp[isoH,XK,natI]
theorem z27 (lt:Nat->Nat->Bool) (G:List Nat):isoH lt G G.length=natI (isoK lt G G.length):=by simp[isoH,natI]
theorem z1Z (lt:Nat->Nat->Bool) (G:List Nat) (i p:Nat) (h:i<G.length) (hp:p<=i):(isoR lt G i p).length =G.length:=by
 unfold isoR;rw[aaW,jv _ _ _ (by rw[jE lt G i o_];exact hp),jE lt G i o_,za,List.length_drop];omega
theorem QL (lt:Nat->Nat->Bool) (G:List Nat) (i:Nat) (h:i<G.length):isoR lt G i i=isoH lt G i:=by
 unfold isoR isoH;have hl:=jE lt G i o_
 have e:gapI (isoK lt G i) i ((G.getD i 0:Nat):Int)=natI (isoK lt G i)++[((G.getD i 0:Nat):Int)]:=by
  have:=Zq (isoK lt G i) ((G.getD i 0:Nat):Int);rw[hl] at this;exact this
 rw[e,aay,aas h,show G.getD i 0=G[i] by simp[List.getD,h]];rfl
theorem z0j (lt:Nat->Nat->Bool) (G:List Nat) (i p:Nat) (h:i<G.length) (hp:p<=i):(isoR lt G i p).getD p 0=((G.getD i 0:Nat):Int):=by
 have hl:=jE lt G i o_;unfold isoR gapI natI;have e:(List.map (fun (d:Nat)=>(d:Int)) ((isoK lt G i).take p)).length =p:=by simp;omega
 rw[List.getD,aay,abb o_,e,aae];rfl
theorem V6 (lt:Nat->Nat->Bool) (G:List Nat) (i p:Nat) (h:i<G.length) (hp:p<i):(isoR lt G i (p+1)).getD p 0=(((isoK lt G i).getD p 0:Nat):Int):=by
 have hl:=jE lt G i o_;have h1:=xw (isoK lt G i) p ((G.getD i 0:Nat):Int) o_;have h2:=jv (isoK lt G i) (p+1) ((G.getD i 0:Nat):Int) o_;unfold isoR;rw[List.getD,abc o_];exact h1
theorem XV (lt:Nat->Nat->Bool) (G:List Nat) (i p:Nat) (h:i<G.length) (hp:p<i):
  ((isoR lt G i (p+1)).set (p+1) (((isoK lt G i).getD p 0:Nat):Int)).set p ((G.getD i 0:Nat):Int)=isoR lt G i p:=by
 have hl:=jE lt G i o_;have h1:=ZI (isoK lt G i) p ((G.getD i 0:Nat):Int) o_;have h2:=jv (isoK lt G i) (p+1) ((G.getD i 0:Nat):Int) o_;have h3:=jv (isoK lt G i) p (((isoK lt G i).getD p 0:Nat):Int) o_;have h4:=xQ (isoK lt G i) p (((isoK lt G i).getD p 0:Nat):Int) (G.getD i 0) o_;unfold isoR;rw[aan,aao o_,h1,aan,aao o_,h4]
 congr 1
 simp[gapI,natI]
theorem JT (lt:Nat->Nat->Bool) (G:List Nat) (i:Nat) (h:i<G.length):isoR lt G i (posN (lt G[i]) (isoK lt G i) i)=isoH lt G (i+1):=by
 have hl:=jE lt G i o_;unfold isoR isoH;rw[ZH lt G i h];unfold insN gapI natI;rw[hl];simp[List.getD,h]
def frD (ls:List Pr) (k:Nat):Nat->List Nat
 |0=> []
 |d+1=>if zd ls d=k then frD ls k d++[d] else frD ls k d
theorem z0S {ls:List Pr} {k d:Nat} (h:¬zd ls d=k):frD ls k (d+1)=frD ls k d:=by simp[frD,h]
theorem Jv {ls:List Pr} {k d:Nat} (h:zd ls d=k):frD ls k (d+1)=frD ls k d++[d]:=by simp[frD,h]
theorem z7e (lt:Nat->Nat->Bool) (G:List Nat) (d:Nat):isoK lt (G++[d]) (G++[d]).length =insN (lt d) d (isoK lt G G.length):=by
 unfold isoK;rw[aaA,aaA,List.foldl_append];rfl
theorem JB (ns ls:List Pr) (k:Nat):∀m,isoK (bfD ns ls k) (frD ls k m) (frD ls k m).length =ardS ns ls k m
 |0=>rfl
 |m+1=>by
  by_cases h:zd ls m=k
  ·rw[Jv h,z7e,JB ns ls k m,kC h]
  ·rw[z0S h,JB ns ls k m,Qj h]
theorem Xe (ls:List Pr) (k:Nat):∀m e,e∈frD ls k m->e<m/\zd ls e=k
 |0,e,h=>by simp[frD] at h
 |m+1,e,h=>by
  by_cases hf:zd ls m=k
  ·rw[Jv hf,aaI,aa9] at h
   rcases h with h|rfl
   ·have:=Xe ls k m e h;exact⟨by omega,this.2⟩
   ·exact⟨by omega,hf⟩
  ·rw[z0S hf] at h
   have:=Xe ls k m e h;exact⟨by omega,this.2⟩
open Go.RowKit
def tk (L:Array Bool) (j:Nat):Bool:=L.getD j true
theorem z0U (L:Array Bool) (i:Nat):tk (L.setIfInBounds i true) i=true:=by
 unfold tk
 rcases abj i L.size with h|h
 ·simp[h]
 ·simp[h]
theorem yb {L:Array Bool} {i j:Nat} (h:i≠j):tk (L.setIfInBounds i true) j=tk L j:=getD_set_ne true h
theorem ZV {L:Array Bool} {j:Nat} (h:tk L j=false):j<L.size:=by
 unfold tk at h
 rcases abj j L.size with h'|h'
 ·exact h'
 ·simp[h'] at h
theorem z8z {L:Array Bool} {j:Nat} (h:L.getD j false=true):tk L j=true:=by
 unfold tk
 rcases abj j L.size with h'|h'
 ·simp[h'] at h⊢;exact h
 ·simp[h'] at h
theorem preS {L:Array Bool} {i:Nat} {l:List Nat} (h:∀j∈l,tk L j=true):∀j∈l,tk (L.setIfInBounds i true) j=true:=by
 intro j hj
 by_cases MV:i=j
 ·subst MV;exact z0U L i
 ·rw[yb MV];exact h j hj
def Aft (L:Array Bool) (j:Nat) (p:Prop):Prop:=tk L j=true->p
theorem Aft.keep {L:Array Bool} {i j:Nat} {p:Prop} (h:Aft L j p) (Hv:i≠j):Aft (L.setIfInBounds i true) j p:=fun ht=>h (by rw[yb Hv] at ht;exact ht)
theorem Aft.new {L:Array Bool} {j:Nat} {p:Prop} (h:p):Aft L j p:=fun _=>h
theorem Aft.no {L:Array Bool} {j:Nat} {p:Prop} (h:tk L j=false):Aft L j p:=fun ht=>by rw[h] at ht;cases ht
def Qp (base:Nat) (t:TypeId) (cs:Array Value) (v:Value) (w:World):Prop:=∃g,v= .pointer (some ⟨g,0,none⟩)/\base<=g/\Blk w g t cs
theorem Qp.below {base:Nat} {t:TypeId} {cs:Array Value} {v:Value} {w w':World} (h:Qp base t cs v w) (hb:Below w.heap.size w w'):Qp base t cs v w':=by
 obtain⟨g,h1,h2,h3⟩:=h;exact⟨g,h1,h2,h3.below hb h3.lt⟩
theorem Qp.ne {base:Nat} {t:TypeId} {cs:Array Value} {v:Value} {w:World} (h:Qp base t cs v w):v≠ .pointer (some ⟨w.heap.size,0,none⟩):=by
 obtain⟨g,h1,h2,h3⟩:=h;have:=h3.lt;rintro rfl
 injection h1 with h1
 injection h1 with h1
 injection h1 with h1
 omega
theorem Qp.far {base:Nat} {t:TypeId} {cs:Array Value} {v:Value} {w:World} (h:Qp base t cs v w) {g i:Nat} (Hv:v≠ .pointer (some ⟨g,0,none⟩)) (x:Value):Qp base t cs v (w.setCell ⟨g,i,none⟩ x):=by
 obtain⟨g',h1,h2,h3⟩:=h;exact⟨g',h1,h2,h3.far (p:=⟨g,i,none⟩) (fun e=>Hv (by rw[h1,show g'=g from e])) x⟩
structure One (L:Array Bool) (i s base:Nat) (t:TypeId) (z f:Array Value) (v:Value) (w:World):Prop where
 ord:tk L s=true->tk L i=true
 zero:tk L i=true->tk L s=false->Qp base t z v w
 full:tk L s=true->Qp base t f v w
theorem One.start {L:Array Bool} {i s base:Nat} {t:TypeId} {z f:Array Value} {v:Value} {w:World} (hi:tk L i=false) (hs:tk L s=false):One L i s base t z f v w:=
 ⟨fun h=>by(rw[hs] at h;cases h),fun h=>by(rw[hi] at h;cases h),fun h=>by(rw[hs] at h;cases h)⟩
theorem One.step {L:Array Bool} {i s base k:Nat} {t:TypeId} {z f:Array Value} {v:Value} {w w':World} (h:One L i s base t z f v w) (h1:k≠i) (h2:k≠s) (hb:Below w.heap.size w w'):One (L.setIfInBounds k true) i s base t z f v w':=
 ⟨by rw[yb h1,yb h2];exact h.ord,by rw[yb h1,yb h2];exact fun a b=>(h.zero a b).below hb,by rw[yb h2];exact fun a=>(h.full a).below hb⟩
theorem One.far {L:Array Bool} {i s base k g:Nat} {t:TypeId} {z f:Array Value} {v:Value} {w:World} (h:One L i s base t z f v w) (h1:k≠i) (h2:k≠s) (Hv:tk L i=true->v≠ .pointer (some ⟨g,0,none⟩)) (a b:Nat) (x y:Value):
  One (L.setIfInBounds k true) i s base t z f v ((w.setCell ⟨g,a,none⟩ x).setCell ⟨g,b,none⟩ y):=
 ⟨by rw[yb h1,yb h2];exact h.ord,by rw[yb h1,yb h2];exact fun p q=>((h.zero p q).far (Hv p) x).far (Hv p) y,by rw[yb h2];exact fun p=>((h.full p).far (Hv (h.ord p)) x).far (Hv (h.ord p)) y⟩
theorem One.lay {L:Array Bool} {i s base:Nat} {t:TypeId} {z f:Array Value} {v:Value} {w:World} (h:One L i s base t z f v w) (GV:tk L i=false) (his:i≠s) (hb:base<=w.heap.size):One (L.setIfInBounds i true) i s base t z f (.pointer (some ⟨w.heap.size,0,none⟩)) (w.alloc (.cells z t)):=by
 have hs:tk L s=false:=by
  cases hc:tk L s
  ·rfl
  ·have:=h.ord hc
   rw[GV] at this;cases this
 exact⟨(by rw[yb his,hs];exact(fun h=>by cases h)),fun _ _=>⟨_,rfl,hb,Blk.new w t z⟩,(by rw[yb his,hs];exact(fun h=>by cases h))⟩
theorem One.fill {L:Array Bool} {i s base:Nat} {t:TypeId} {x y p q:Value} {v:Value} {w:World} {g:Nat} (h:One L i s base t #[x,y] #[p,q] v w) (hi:tk L i=true) (hs:tk L s=false) (hv:v= .pointer (some ⟨g,0,none⟩)) (his:s≠i):
  One (L.setIfInBounds s true) i s base t #[x,y] #[p,q] v ((w.setCell ⟨g,0,none⟩ p).setCell ⟨g,1,none⟩ q):=by
 obtain⟨g',h1,h2,h3⟩:=h.zero hi hs;rw[hv] at h1
 injection h1 with h1
 injection h1 with h1
 injection h1 with h1
 subst h1;refine⟨fun _=>by rw[yb his];exact hi,fun _ hc=>(by rw[z0U] at hc;cases hc),fun _=>⟨g,hv,h2,?_⟩⟩
 have:=(h3.set_ 0 p).set_ 1 q
 simpa using this
def Apart2 (L:Array Bool) (i j:Nat) (v u:Value):Prop:=tk L i=true->tk L j=true->v≠u
theorem Apart2.start {L:Array Bool} {i j:Nat} {v u:Value} (h:tk L i=false):Apart2 L i j v u:=fun h1=>by rw[h] at h1;cases h1
theorem Apart2.step {L:Array Bool} {i j k:Nat} {v u:Value} (h:Apart2 L i j v u) (h1:k≠i) (h2:k≠j):Apart2 (L.setIfInBounds k true) i j v u:=by
 unfold Apart2;rw[yb h1,yb h2];exact h
theorem One.old {L:Array Bool} {i s base:Nat} {t:TypeId} {z f:Array Value} {v:Value} {w:World} (h:One L i s base t z f v w) (hi:tk L i=true):v≠ .pointer (some ⟨w.heap.size,0,none⟩):=by
 cases hs:tk L s
 ·exact(h.zero hi hs).ne
 ·exact(h.full hs).ne
theorem Apart2.newR {L:Array Bool} {i j s base:Nat} {t:TypeId} {z f:Array Value} {v:Value} {w:World} (h:One L i s base t z f v w) (h1:j≠i):Apart2 (L.setIfInBounds j true) i j v (.pointer (some ⟨w.heap.size,0,none⟩)):=by
 unfold Apart2;rw[yb h1];exact fun hi _=>h.old hi
theorem Apart2.newL {L:Array Bool} {i j s base:Nat} {t:TypeId} {z f:Array Value} {v:Value} {w:World} (h:One L j s base t z f v w) (h1:i≠j):Apart2 (L.setIfInBounds i true) i j (.pointer (some ⟨w.heap.size,0,none⟩)) v:=by
 unfold Apart2;rw[yb h1];exact fun _ hj=>(h.old hj).symm
section
variable {P:Program} {md:Region.Mode} {ops:Array Oper} {Q:Exit->Act->World->Prop} {S:World->Prop}
theorem JP {i:Nat} {L:Array Bool} (h:i∈Region.ready md ops L):tk L i=false:=(mem_ready.1 h).1
theorem qX {i j:Nat} {o:Oper} {L:Array Bool} (h:i∈Region.ready md ops L) (ho:(ops.toList.drop i).head? =some o) (hw:(o.after.any fun e=>Region.binds md e&&e.on==j)=true):tk L j=true:=by
 obtain⟨_,o',FF,GU⟩:=mem_ready.1 h;rw[qp ho] at FF
 cases FF
 rw[Array.any_eq_true] at hw;obtain⟨k,hk,h2⟩:=hw;rw[aaG] at h2;have:=GU o.after[k] (Array.getElem_mem hk) h2.1;rw[show o.after[k].on =j by simpa using h2.2] at this;exact z8z this
def z6Y (md:Region.Mode) (ops:Array Oper):Bool:=(List.range ops.size).all fun i=>((ops[i]?).map (·.after.all fun e=> !Region.binds md e||decide (e.on<i))).getD true
def z6H (md:Region.Mode) (ops:Array Oper) (n:Nat):Bool:=
 ((ops[n]?).map fun o=>(List.range n).all fun j=>o.after.any fun e=>Region.binds md e&&e.on==j).getD false&&
 (List.range ops.size).all fun i=>decide (i<=n)||((ops[i]?).map fun o=>o.after.any fun e=>Region.binds md e&&e.on==n).getD true
theorem qM {i:Nat} {o:Oper} {K:Act->World->Prop} {a:Act} {w:World} (ho:(ops.toList.drop i).head? =some o)
  (h:∀K':Act->World->Prop,(∀a w,K a w->K' a w)->if Region.wanted o (yielded ops a.tmps)=true then Oper.wp P o a w K' Q else K' (a.put o.dst undef) w):wpOp P ops Q i K a w:=
 wpOp_step (qp ho) h
theorem z3O (hb:z6Y md ops=true) {L:Array Bool} (hs:L.size=ops.size) {k:Nat} (hk:tk L k=false):Region.ready md ops L≠ []:=by
 intro hr
 have hex:∀m,m<=ops.size->∀j,j<m->tk L j=true:=by
  intro m
  induction m with
  |zero=>intro _ j hj;omega
  |succ m ih=>
   intro hm j hj
   rcases Nat.lt_succ_iff_lt_or_eq.1 hj with h|h
   ·exact ih o_ j h
   ·subst h
    apply abk
    intro hc;have R8:tk L j=false:=by simpa using hc
    have hj2:j<ops.size:=o_
    have:j∈Region.ready md ops L:=by
     rw[mem_ready];refine⟨R8,ops[j],by simp[hj2],fun e he GB=>?_⟩
     unfold z6Y at hb;rw[aaL] at hb;have h1:=hb j (List.mem_range.2 hj2);simp only[abn hj2,aaw,Option.getD_some,Array.all_eq_true_iff_forall_mem] at h1
     have h2:=h1 e he;rw[GB] at h2;have h3:e.on<j:=by simpa using h2
     have h4:=ih o_ e.on h3;unfold tk at h4;have h5:e.on<L.size:=o_
     simp[h5] at h4⊢
     exact h4
    rw[hr] at this
    cases this
 have gU:=ZV hk;have:=hex ops.size (aaa _) k o_;rw[this] at hk
 cases hk
def z0l (N:Nat) (L:Array Bool):Nat:=(List.range N).countP fun j=> !tk L j
theorem z6m {N i:Nat} {L:Array Bool} (hi:i<N) (h:tk L i=false):z0l N (L.setIfInBounds i true)+1=z0l N L:=by
 unfold z0l
 induction N with
 |zero=>omega
 |succ N ih=>
  rw[abe,List.countP_append,List.countP_append]
  by_cases he:i=N
  ·subst he
   have e:(List.range i).countP (fun j=> !tk (L.setIfInBounds i true) j)=(List.range i).countP (fun j=> !tk L j):=by
    apply List.countP_congr
    intro j hj;have:=List.mem_range.1 hj;rw[yb (show i≠j by omega)]
   rw[e];simp[List.countP_cons,z0U,h]
  ·have:=ih o_
   have e: [N].countP (fun j=> !tk (L.setIfInBounds i true) j)=[N].countP (fun j=> !tk L j):=by
    simp[List.countP_cons,yb he]
   rw[e];omega
def Qt (n N:Nat):Array Bool:=Array.replicate n true++Array.replicate (N -n) false
theorem z95 {n:Nat} {L:Array Bool} (h1:∀j,j<n->tk L j=true) (h2:∀j,n<=j->j<L.size->tk L j=false) (hn:n<=L.size):L=Qt n L.size:=by
 apply Array.ext
 ·simp[Qt];omega
 ·intro j hj Fb
  have e:tk L j=L[j]:=by unfold tk;simp[hj]
  rcases abj j n with h|h
  ·rw[<-e,h1 j h]
   simp[Qt,Array.getElem_append,h]
  ·rw[<-e,h2 j h hj]
   simp[Qt,Array.getElem_append,show ¬j<n by omega]
theorem z4B {n:Nat} {Inv:Array Bool->Act->World->Prop} (hn:n<ops.size) (hb:z6Y md ops=true) (hl:z6H md ops n=true)
  (WL:∀L a w,Inv L a w->∀i,i<n->i∈Region.ready md ops L->wpOp P ops Q i (fun a' w'=>S w'/\Inv (L.setIfInBounds i true) a' w') a w)
  (hend:∀a w,Inv (Qt n ops.size) a w->anyE P md ops Q S n (ops.size -n) (Qt n ops.size) a w):
  ∀(fuel:Nat) (L:Array Bool) (a:Act) (w:World),L.size=ops.size->(∀j,n<=j->j<ops.size->tk L j=false)->z0l ops.size L=fuel->Inv L a w->anyE P md ops Q S n fuel L a w:=by
 intro fuel
 induction fuel with
 |zero=>
  intro L a w hs GV hc _
  exfalso
  have h0:=GV n (aaa _) hn;unfold z0l at hc;rw[List.countP_eq_zero] at hc;have:=hc n (List.mem_range.2 hn);rw[h0] at this;exact this rfl
 |succ fuel ih=>
  intro L a w hs GV hc hI
  by_cases Mj:n∈Region.ready md ops L
  ·have GU:∀j,j<n->tk L j=true:=by
    intro j hj;unfold z6H at hl;rw[aaG] at hl;have h1:=hl.1;rw[abn hn,aaw,Option.getD_some,aaL] at h1;exact qX (o:=ops[n]) Mj (by rw[List.head?_drop,Array.getElem?_toList,abn hn]) (h1 j (List.mem_range.2 hj))
   have hL:=z95 GU (fun j h1 h2=>GV j h1 o_) o_;rw[hs] at hL
   have hcnt:fuel+1=ops.size -n:=by
    rw[<-hc,hL];unfold z0l
    have e:∀N,n<=N->(List.range N).countP (fun j=> !tk (Qt n N) j)=N -n:=by
     intro N hN
     have g:∀m,m<=N->(List.range m).countP (fun j=> !tk (Qt n N) j)=m -n:=by
      intro m
      induction m with
      |zero=>intro _;simp
      |succ m ihm=>
       intro hm;rw[abe,List.countP_append,ihm o_]
       have hv:tk (Qt n N) m=decide (m<n):=by
        unfold tk Qt
        by_cases h:m<n
        ·simp[Array.getElem?_append,h]
        ·simp[Array.getElem?_append,h,show m -n<N -n by omega]
       by_cases h:m<n
       ·simp[List.countP_cons,hv,h];omega
       ·simp[List.countP_cons,hv,h];omega
     exact g N (aaa _)
    exact e ops.size o_
   rw[hcnt,hL];exact hend a w (by rw[hL] at hI;exact hI)
  ·refine⟨fun h0=>absurd h0 (z3O hb hs (GV n (aaa _) hn)),fun i hi=>?_⟩
   have hun_i:=JP hi;have FH:i<ops.size:=by have:=ZV hun_i;omega
   have Gg:i<n:=by
    apply abk
    intro Mu
    rcases Nat.lt_or_eq_of_le (Nat.le_of_not_lt Mu) with h|h
    ·unfold z6H at hl
     rw[aaG] at hl;have h1:=List.all_eq_true.1 hl.2 i (List.mem_range.2 FH);rw[abn FH,aaw,Option.getD_some] at h1
     have h2:(ops[i].after.any fun e=>Region.binds md e&&e.on==n)=true:=by
      rcases Bool.or_eq_true_iff.1 h1 with h3|h3
      ·simp at h3;omega
      ·exact h3
     have:=qX (o:=ops[i]) hi (by rw[List.head?_drop,Array.getElem?_toList,abn FH]) h2;rw[GV n (aaa _) hn] at this
     cases this
    ·subst h;exact Mj hi
   refine wpOp_mono (fun a' w' h'=>⟨fun _=>h'.1,ih (L.setIfInBounds i true) a' w' (by simpa using hs) (fun j h1 h2=>by rw[yb o_];exact GV j h1 h2) ?_ h'.2⟩) (WL L a w hI i Gg hi)
   have:=z6m (N:=ops.size) FH hun_i;omega
end
theorem Zy (ls:List Pr) (k:Nat):∀m,(frD ls k m).Nodup
 |0=>by simp[frD]
 |m+1=>by
  by_cases h:zd ls m=k
  ·rw[Jv h,List.nodup_append]
   refine⟨Zy ls k m,by simp,fun a ha b hb=>?_⟩
   have:=(Xe ls k m a ha).1;simp at hb
   omega
  ·rw[z0S h];exact Zy ls k m
theorem z75 {ns ls:List Pr} (h:zC ns ls) {d e:Nat} (hd:d<2*ls.length) (he:e<2*ls.length) (h1:zd ls d=zd ls e) (h2:dTo ls d=dTo ls e):d=e:=by
 have h6:=h.2.2.2.2.2;have l1:=zZ.1 (h6 (d/2) o_).1;have l2:=zZ.1 (h6 (e/2) o_).1
 by_cases hq:d/2=e/2
 ·unfold zd at h1
  rw[hq] at h1 l1
  by_cases p1:d%2=1<;>by_cases p2:e%2=1
  ·omega
  ·rw[aao p1,aaq p2] at h1;omega
  ·rw[aaq p1,aao p2] at h1;omega
  ·omega
 ·exfalso
  refine z3u h o_ o_ hq ?_
  unfold zd at h1;unfold dTo at h2;refine Prod.ext_iff.2 ?_
  by_cases p1:d%2=1<;>by_cases p2:e%2=1
  ·rw[aao p1,aao p2] at h1 h2;exact⟨h2,h1⟩
  ·rw[aao p1,aaq p2] at h1 h2;exfalso;omega
  ·rw[aaq p1,aao p2] at h1 h2;exfalso;omega
  ·rw[aaq p1,aaq p2] at h1 h2;exact⟨h1,h2⟩
theorem z7t {ns ls:List Pr} (h:zC ns ls) (k:Nat):(frD ls k (2*ls.length)).length <=12:=by
 apply abk
 intro hc;have Hr:∀j:Nat,j<ls.length->zt ns (ndI ls j)=true:=fun j hj=>(h.2.2.2.2.2 j hj).1
 have hn:=h.2.1;generalize hG:frD ls k (2*ls.length)=G at*
 have hm:∀i,i<G.length->G.getD i 0<2*ls.length/\zd ls (G.getD i 0)=k:=by
  intro i hi;have:=Xe ls k (2*ls.length) (G.getD i 0) (by rw[hG,List.getD,aac hi];exact abg hi);exact this
 obtain⟨i,j,h1,h2,h3⟩:=pigeon 12 (fun i=>(dTo ls (G.getD i 0)).toNat) (fun i hi=>by
  obtain⟨t,ht,Bh⟩:=jM Hr (hm i o_).1
  show(dTo ls (G.getD i 0)).toNat <12
  rw[ht];omega)
 have mi:=hm i o_;have mj:=hm j o_;obtain⟨t,ht,_⟩:=jM Hr mi.1;obtain⟨u,hu,_⟩:=jM Hr mj.1;have h3':(dTo ls (G.getD i 0)).toNat =(dTo ls (G.getD j 0)).toNat :=h3;have hto:dTo ls (G.getD i 0)=dTo ls (G.getD j 0):=by rw[ht,hu] at h3'⊢;omega
 have he:=z75 h mi.1 mj.1 (by rw[mi.2,mj.2]) hto;have hnd:=Zy ls k (2*ls.length);rw[hG] at hnd;have li:i<G.length:=o_
 have lj:j<G.length:=o_
 rw[List.getD,List.getD,aac li,aac lj] at he;have:=(List.getElem_inj hnd).1 (by simpa using he);omega
attribute [local go_sem ↓] zr zq zU zT
theorem z3g (d:Nat):d^^^1=twin d:=by
 apply Nat.eq_of_testBit_eq
 intro i;rw[Nat.testBit_xor]
 cases i with
 |zero=>
  rw[Nat.testBit_zero,Nat.testBit_zero,Nat.testBit_zero];unfold twin;have h:d%2=0∨d%2=1:=o_
  rcases h with h|h
  ·rw[aao h,h,show(d+1)%2=1 by omega];rfl
  ·rw[aaq o_,h,show(d -1)%2=0 by omega];rfl
 |succ i=>
  rw[Nat.testBit_succ,Nat.testBit_succ,Nat.testBit_succ,show twin d/2=d/2 by unfold twin;split<;>omega];simp
theorem yP (vn vl:Value) (ls:List Pr) (d:Nat) (w:World) (hl:RP w vl ls) (hd:d<2*ls.length):
  CB_ 241 #[.agg #[vn,vl],.int .i64 d] w (.int .i64 (zd ls d)):=by
 obtain⟨A,c,rfl,hc,hm,hcell⟩:=hl.formI;unfold maxLen at hm;clear hl;obtain⟨b,off,rfl,hb,Hz⟩:=hcell o_;obtain⟨k0,k1⟩:=Hz (d/2) o_;have t1:=tdiv2 d;have t2:=tmod2 d;have HF:Hid (zd ls d=if d%2=1 then(ndI ls (d/2:Nat)).2 else(ndI ls (d/2:Nat)).1):=h_ rfl;have hq:d/2<ls.length:=o_
 have rs:((d/2:Nat):Int)<(ls.length:Int):=o_
 have rt:(0:Int)<=((d/2:Nat):Int):=o_
 have hr:d%2=0∨d%2=1:=o_
 generalize d/2=q at*;generalize ndI ls (q:Int)=L at*;obtain⟨l1,l2⟩:=L;simp only at k0 k1 HF
 clear Hz hcell
 rcases hr with hr|hr
 ·rw[hr] at HF t2
  have e1:((0:Nat):Int)=0:=rfl
  go_enter Tryz.func241,Tryz.ntmps241
  go_wp2;go_ret
  exact⟨zi (by rw[HF.out];rfl),by exact bel_⟩
 ·rw[hr] at HF t2
  have e1:((1:Nat):Int)=1:=rfl
  go_enter Tryz.func241,Tryz.ntmps241
  go_wp2;go_ret
  exact⟨zi (by rw[HF.out];rfl),by exact bel_⟩
theorem z5T (ax ay bx by':Int) (w:World):
  CB_ 275 #[.agg #[.int .i64 ax,.int .i64 ay],.agg #[.int .i64 bx,.int .i64 by']] w (.int .i64 (ja ax ay bx by')):=by
 go_enter Tryz.func275,Tryz.ntmps275
 go_wp2
 all_goals go_ret
 all_goals refine⟨zi ?_,by exact bel_⟩
 all_goals unfold ja
 all_goals first|(rw[aao o_];done)|(rw[aaq o_];done)|(simp_all;done)|(simp_all;omega)
theorem z21 (ax ay bx by' cx cy:Int) (w:World):
  Calls Tryz.prog 269 #[.agg #[.int .i64 ax,.int .i64 ay],.agg #[.int .i64 bx,.int .i64 by'],.agg #[.int .i64 cx,.int .i64 cy]] w
   fun e w'=>e= .returned (.bool (befB ax ay bx by' cx cy))/\Below w.heap.size w w':=by
 by_cases hv:zh ax ay=true/\zh bx by'=true/\zh cx cy=true
 ·obtain⟨h1,h2,h3⟩:=hv
  have HN:Hid ((zh ax ay&&zh bx by'&&zh cx cy)=true):=h_ (by rw[h1,h2,h3];rfl);have HR:Hid (befB ax ay bx by' cx cy=(if ja ax ay bx by'=ja ax ay cx cy then decide (0<q8 ax ay bx by' cx cy) else decide (ja ax ay bx by'<ja ax ay cx cy))):=h_ (by unfold befB;rw[h1,h2,h3];rfl)
  go_enter Tryz.func269,Tryz.ntmps269
  go_wp2_with fail
  refine(vV _ ax ay bx by' cx cy _ (j6 (by simp) rfl rfl rfl (by simp[maxLen]))).mono ?_
  rintro e w1 ⟨rfl,Hb⟩;(have gl:=bcC Hb);have H7:=Hb.size;(try simp at H7);(try have gY:=p0_ w w1);(try have Gv:=p1_ w w1);(try have Fr:=p2_ w w1)
  rw[HN.out]
  go_wp2_with fail
  (refine z7 k_ k_ (fun hG=>?_))
  repeat (go_big_quiet_step ((go_at_call 275;exact zE (z5T _ _ _ _ _))))
  (refine wpQuiet_nil ?_);(clear hG);(rintro w4 ⟨⟨_,H5⟩,rfl⟩);(try dsimp only);(have cf:=bcC H5);have BA:=H5.size;(try simp at BA);(try have Rn:=p0_ w w4);(try have Ro:=p1_ w w4);(try have Rp:=p2_ w w4);(try have hp4_3:=p3_ w w4)
  generalize hU:ja ax ay bx by'=u at*
  generalize hV:ja ax ay cx cy=v at*
  go_wp2_with (go_at_call 214;refine(Q3 _ _ _ _ _ _ _ h1 h2 h3).mono ?_;rintro e w5 ⟨rfl,gk⟩)
  all_goals go_ret
  all_goals refine⟨z8 ?_,by exact bel_⟩
  all_goals rw[HR.out]
  all_goals by_cases rq:u=v
  all_goals first|rw[aao rq]|rw[aaq rq]
  all_goals first|(simp_all;done)|(simp_all;omega)|(simp;omega)
 ·have HN:Hid ((zh ax ay&&zh bx by'&&zh cx cy)=false):=h_ (by
   cases h1:zh ax ay<;>cases h2:zh bx by'<;>cases h3:zh cx cy<;>simp_all)
  have HR:=h_ (Jw hv)
  go_enter Tryz.func269,Tryz.ntmps269
  go_wp2_with fail
  refine(vV _ ax ay bx by' cx cy _ (j6 (by simp) rfl rfl rfl (by simp[maxLen]))).mono ?_
  rintro e w1 ⟨rfl,Hb⟩;rw[HN.out];go_wp2;go_ret
  exact⟨z8 HR.out.symm,by exact bel_⟩
theorem z44 (a b c:Pr) (x:Bool) (w:World) (h:befB a.1 a.2 b.1 b.2 c.1 c.2=x):
  Calls Tryz.prog 269 #[.agg #[.int .i64 a.1,.int .i64 a.2],.agg #[.int .i64 b.1,.int .i64 b.2],.agg #[.int .i64 c.1,.int .i64 c.2]] w
   fun e w'=>e= .returned (.bool x)/\Below w.heap.size w w':=by
 subst h;exact z21 _ _ _ _ _ _ w
def cmpD (ns ls:List Pr) (k d e:Nat):Int:=if d=e then 0 else if bfD ns ls k d e then -1 else 1
theorem z7c (ax ay bx by':Int):befB ax ay bx by' bx by'=false:=by
 unfold befB;rw[aao rfl];have:q8 ax ay bx by' bx by'=0:=X0 (ax,ay) (bx,by')
 rw[this];simp
theorem z8B (ns ls:List Pr) (k d e:Nat):decide (cmpD ns ls k d e<0)=bfD ns ls k d e:=by
 unfold cmpD
 by_cases h:d=e
 ·subst h
  rw[aao rfl];unfold bfD;rw[z7c];rfl
 ·rw[aaq h]
  cases bfD ns ls k d e<;>rfl
theorem z8e (gW gK:Nat) (vn vl:Value) (ns ls:List Pr) (k d e:Nat) (w:World) (hW:Blk w gW 27 #[vn,vl]) (hKc:w.cell? ⟨gK,0,none⟩=some (.int .i64 k)) (hKl:gK<w.heap.size) (hn:RP w vn ns) (hl:RP w vl ls)
  (hk:k<ns.length) (hd:d<2*ls.length) (he:e<2*ls.length) (Hk:zC ns ls):
  Calls Tryz.prog 268 #[.int .i64 d,.int .i64 e,.pointer (some ⟨gW,0,none⟩),.pointer (some ⟨gK,0,none⟩)] w fun en w'=>en= .returned (.int .i64 (cmpD ns ls k d e))/\Below w.heap.size w w':=by
 have Hr:∀j:Nat,j<ls.length->zt ns (ndI ls j)=true:=fun j hj=>(Hk.2.2.2.2.2 j hj).1
 have GN:=Hk.2.2.1;obtain⟨An,cn,rfl,FQ,GW,Hp⟩:=hn.formI;obtain⟨bn,offn,rfl,Gh,Gj⟩:=Hp o_;obtain⟨t,ht,Bh⟩:=jM Hr hd;obtain⟨u,hu,GV⟩:=jM Hr he;obtain⟨k0,k1⟩:=Gj k hk;obtain⟨t0,t1⟩:=Gj t Bh;obtain⟨u0,u1⟩:=Gj u GV;unfold maxLen at GW;have hgW:=hW.lt;have x1:=x5 (a:=d) (b:=1) o_ o_;have x2:=x5 (a:=e) (b:=1) o_ o_;rw[z3g] at x1 x2;have x1':bits .xor .i64 (d:Int) 1=((twin d:Nat):Int):=x1;have x2':bits .xor .i64 (e:Int) 1=((twin e:Nat):Int):=x2;clear x1 x2;have X1:=h_ x1';have X2:=h_ x2';clear x1' x2';have ik1:(0:Int)<=(k:Int):=o_
 have ik2:(k:Int)<(ns.length:Int):=o_
 have it1:(0:Int)<=(t:Int):=o_
 have it2:(t:Int)<(ns.length:Int):=o_
 have iu1:(0:Int)<=(u:Int):=o_
 have iu2:(u:Int)<(ns.length:Int):=o_
 obtain⟨a_0,a_1⟩:=hW.c2;clear Hp Gj
 go_enter Tryz.func268,Tryz.ntmps268
 go_wp2_with fail
 have HS:Hid (∀v:World,Below w.heap.size w v->v.cell? ⟨gW,0,none⟩=some (.slice (some ⟨bn,offn,none⟩) ns.length cn)/\v.cell? ⟨gW,1,none⟩=some vl/\v.cell? ⟨gK,0,none⟩=some (.int .i64 k)/\v.cell? ⟨bn,offn+k*2,none⟩=some (.int .i64 (ndI ns k).1)/\v.cell? ⟨bn,offn+k*2+1,none⟩=some (.int .i64 (ndI ns k).2)):=h_ (fun v hv=>⟨(hv.cell (p:=⟨gW,0,none⟩) hgW).trans a_0,(hv.cell (p:=⟨gW,1,none⟩) hgW).trans a_1,(hv.cell (p:=⟨gK,0,none⟩) hKl).trans hKc,(hv.cell (p:=⟨bn,offn+k*2,none⟩) Gh).trans k0,(hv.cell (p:=⟨bn,offn+k*2+1,none⟩) Gh).trans k1⟩);refine qD (n:=26) (S:=fun v=>v.cell? ⟨gW,0,none⟩=some (.slice (some ⟨bn,offn,none⟩) ns.length cn)/\v.cell? ⟨gW,1,none⟩=some vl/\v.cell? ⟨gK,0,none⟩=some (.int .i64 k)/\v.cell? ⟨bn,offn+k*2,none⟩=some (.int .i64 (ndI ns k).1)/\v.cell? ⟨bn,offn+k*2+1,none⟩=some (.int .i64 (ndI ns k).2)) k_ (HS.out _ (aaj _ _).drew) (fun hS=>?_)
 refine tE_ 0 rfl rfl ?_;(try simp only[lp_])
 refine tE_ 1 rfl rfl ?_;(try simp only[lp_])
 refine tE_ 2 rfl rfl ?_;(try simp only[lp_])
 refine tE_ 3 rfl rfl ?_;(try simp only[lp_])
 refine tE_ 4 rfl rfl ?_;(try simp only[lp_])
 refine tE_ 5 rfl rfl ?_;(try simp only[lp_])
 refine tE_ 6 rfl rfl ?_;(try simp only[lp_])
 refine tE_ 7 rfl rfl ?_;(try simp only[lp_])
 refine tE_ 8 rfl rfl ?_;(try simp only[lp_])
 refine tE_ 9 rfl rfl ?_;(try simp only[lp_])
 refine tE_ 13 rfl rfl ?_;(try simp only[lp_])
 refine tE_ 14 rfl rfl ?_;(try simp only[lp_])
 refine tE_ 15 rfl rfl ?_;(try simp only[lp_])
 refine tE_ 16 rfl rfl ?_;(try simp only[lp_])
 refine tE_ 17 rfl rfl ?_;(try simp only[lp_])
 rw[X1.out,X2.out];have hpt:=jC hd;have hqt:=jC he;have T0:=jz ls d;have U0:=jz ls e;rw[ht] at T0;rw[hu] at U0;have HC:=h_ (fun (v:World) (hb:Below w.heap.size w v)=>yP (.slice (some ⟨bn,offn,none⟩) ns.length cn) vl ls (twin d) v (hl.below hb) hpt);have HD:=h_ (fun (v:World) (hb:Below w.heap.size w v)=>yP (.slice (some ⟨bn,offn,none⟩) ns.length cn) vl ls (twin e) v (hl.below hb) hqt);rw[T0] at HC;rw[U0] at HD;generalize twin d=pd at*;generalize twin e=pe at*;have HT:Hid (∀v:World,Below w.heap.size w v->v.cell? ⟨bn,offn+t*2,none⟩=some (.int .i64 (ndI ns t).1)/\v.cell? ⟨bn,offn+t*2+1,none⟩=some (.int .i64 (ndI ns t).2)):=h_ (fun v hv=>⟨(hv.cell (p:=⟨bn,offn+t*2,none⟩) Gh).trans t0,(hv.cell (p:=⟨bn,offn+t*2+1,none⟩) Gh).trans t1⟩);have HU:Hid (∀v:World,Below w.heap.size w v->v.cell? ⟨bn,offn+u*2,none⟩=some (.int .i64 (ndI ns u).1)/\v.cell? ⟨bn,offn+u*2+1,none⟩=some (.int .i64 (ndI ns u).2)):=h_ (fun v hv=>⟨(hv.cell (p:=⟨bn,offn+u*2,none⟩) Gh).trans u0,(hv.cell (p:=⟨bn,offn+u*2+1,none⟩) Gh).trans u1⟩)
 refine z4B (n:=26) (Inv:=fun L a v=>∃v7 v8 v9 v20 v21 v22 v28 v29 v30,a= {
   tmps:= #[.int .i64 d,.int .i64 e,.pointer (some ⟨gW,0,none⟩),.pointer (some ⟨gK,0,none⟩),undef,undef,.int .i64 0,v7,v8,v9,
    .pointer (some ⟨gW,0,none⟩),.slice (some ⟨bn,offn,none⟩) ns.length cn,.int .i64 k,.pointer (some ⟨bn,offn+k*2,none⟩),.agg #[.int .i64 (ndI ns k).1,.int .i64 (ndI ns k).2],
    .pointer (some ⟨gW,0,none⟩),.slice (some ⟨bn,offn,none⟩) ns.length cn,.agg #[.slice (some ⟨bn,offn,none⟩) ns.length cn,vl],.int .i64 d,.int .i64 pd,v20,v21,v22,
    .pointer (some ⟨gW,0,none⟩),.slice (some ⟨bn,offn,none⟩) ns.length cn,.agg #[.slice (some ⟨bn,offn,none⟩) ns.length cn,vl],.int .i64 e,.int .i64 pe,v28,v29,v30,
    undef,undef,undef,undef,undef,undef,undef,undef,undef],defers:=[] }/\
   Below w.heap.size w v/\(∀j∈ [0,1,2,3,4,5,6,7,8,9,13,14,15,16,17],tk L j=true)/\
   Aft L 10 (v20= .int .i64 t)/\Aft L 11 (v21= .pointer (some ⟨bn,offn+t*2,none⟩))/\Aft L 12 (v22= .agg #[.int .i64 (ndI ns t).1,.int .i64 (ndI ns t).2])/\
   Aft L 18 (v28= .int .i64 u)/\Aft L 19 (v29= .pointer (some ⟨bn,offn+u*2,none⟩))/\Aft L 20 (v30= .agg #[.int .i64 (ndI ns u).1,.int .i64 (ndI ns u).2])/\
   One L 21 24 w.heap.size 106 #[.int .i64 0,.int .i64 0] #[.int .i64 (ndI ns k).1,.int .i64 (ndI ns k).2] v7 v/\
   One L 22 25 w.heap.size 106 #[.int .i64 0,.int .i64 0] #[.int .i64 (ndI ns t).1,.int .i64 (ndI ns t).2] v8 v/\
   One L 23 26 w.heap.size 106 #[.int .i64 0,.int .i64 0] #[.int .i64 (ndI ns u).1,.int .i64 (ndI ns u).2] v9 v/\
   Apart2 L 21 22 v7 v8/\Apart2 L 21 23 v7 v9/\Apart2 L 22 23 v8 v9) (by decide) k_ k_ ?_ ?_ 12 _ _ _ rfl ?_ k_ ?_
 ·intro L a v hI i hi hr
  obtain⟨v7,v8,v9,v20,v21,v22,v28,v29,v30,rfl,hb,GQ,f10,f11,f12,f18,f19,f20,o7,o8,o9,p78,p79,p89⟩:=hI;have GV:=JP hr;have rH:=HS.out v hb
  rcases(show i=10∨i=11∨i=12∨i=18∨i=19∨i=20∨i=21∨i=22∨i=23∨i=24∨i=25∨i∈ [0,1,2,3,4,5,6,7,8,9,13,14,15,16,17] by simp only[List.mem_cons,List.mem_nil_iff,or_false];omega) with rfl|rfl|rfl|rfl|rfl|rfl|rfl|rfl|rfl|rfl|rfl|hm
  ·--10
   refine qM rfl (fun K hK=>?_)
   rw[aao (by rfl)];go_simp
   go_at_call 241
   refine(HC.out _ hb).mono ?_
   rintro en w1 ⟨rfl,Hb⟩
   go_wp2_with fail
   have gi:=hb.trans (Hb.mono hb.size);exact⟨HS.out _ gi,_,_,_,_,_,_,_,_,_,rfl,gi,preS GQ,Aft.new rfl,f11.keep (by decide),f12.keep (by decide),f18.keep (by decide),f19.keep (by decide),f20.keep (by decide),o7.step (by decide) (by decide) Hb,o8.step (by decide) (by decide) Hb,o9.step (by decide) (by decide) Hb,p78.step (by decide) (by decide),p79.step (by decide) (by decide),p89.step (by decide) (by decide)⟩
  ·--11
   obtain rfl:=f10 (qX hr rfl k_);refine qM rfl (fun K hK=>?_)
   rw[aao (by rfl)];go_simp;exact hK _ _ ⟨rH,_,_,_,_,_,_,_,_,_,rfl,hb,preS GQ,f10.keep (by decide),Aft.new rfl,f12.keep (by decide),f18.keep (by decide),f19.keep (by decide),f20.keep (by decide),o7.step (by decide) (by decide) (aaj _ _),o8.step (by decide) (by decide) (aaj _ _),o9.step (by decide) (by decide) (aaj _ _),p78.step (by decide) (by decide),p79.step (by decide) (by decide),p89.step (by decide) (by decide)⟩
  ·--12
   obtain rfl:=f11 (qX hr rfl k_);obtain⟨c0,c1⟩:=HT.out v hb;refine qM rfl (fun K hK=>?_)
   rw[aao (by rfl)];go_simp;exact hK _ _ ⟨rH,_,_,_,_,_,_,_,_,_,rfl,hb,preS GQ,f10.keep (by decide),f11.keep (by decide),Aft.new rfl,f18.keep (by decide),f19.keep (by decide),f20.keep (by decide),o7.step (by decide) (by decide) (aaj _ _),o8.step (by decide) (by decide) (aaj _ _),o9.step (by decide) (by decide) (aaj _ _),p78.step (by decide) (by decide),p79.step (by decide) (by decide),p89.step (by decide) (by decide)⟩
  ·--18
   refine qM rfl (fun K hK=>?_)
   rw[aao (by rfl)];go_simp
   go_at_call 241
   refine(HD.out _ hb).mono ?_
   rintro en w1 ⟨rfl,Hb⟩
   go_wp2_with fail
   have gi:=hb.trans (Hb.mono hb.size);exact⟨HS.out _ gi,_,_,_,_,_,_,_,_,_,rfl,gi,preS GQ,f10.keep (by decide),f11.keep (by decide),f12.keep (by decide),Aft.new rfl,f19.keep (by decide),f20.keep (by decide),o7.step (by decide) (by decide) Hb,o8.step (by decide) (by decide) Hb,o9.step (by decide) (by decide) Hb,p78.step (by decide) (by decide),p79.step (by decide) (by decide),p89.step (by decide) (by decide)⟩
  ·--19
   obtain rfl:=f18 (qX hr rfl k_);refine qM rfl (fun K hK=>?_)
   rw[aao (by rfl)];go_simp;exact hK _ _ ⟨rH,_,_,_,_,_,_,_,_,_,rfl,hb,preS GQ,f10.keep (by decide),f11.keep (by decide),f12.keep (by decide),f18.keep (by decide),Aft.new rfl,f20.keep (by decide),o7.step (by decide) (by decide) (aaj _ _),o8.step (by decide) (by decide) (aaj _ _),o9.step (by decide) (by decide) (aaj _ _),p78.step (by decide) (by decide),p79.step (by decide) (by decide),p89.step (by decide) (by decide)⟩
  ·--20
   obtain rfl:=f19 (qX hr rfl k_);obtain⟨c0,c1⟩:=HU.out v hb;refine qM rfl (fun K hK=>?_)
   rw[aao (by rfl)];go_simp;exact hK _ _ ⟨rH,_,_,_,_,_,_,_,_,_,rfl,hb,preS GQ,f10.keep (by decide),f11.keep (by decide),f12.keep (by decide),f18.keep (by decide),f19.keep (by decide),Aft.new rfl,o7.step (by decide) (by decide) (aaj _ _),o8.step (by decide) (by decide) (aaj _ _),o9.step (by decide) (by decide) (aaj _ _),p78.step (by decide) (by decide),p79.step (by decide) (by decide),p89.step (by decide) (by decide)⟩
  ·--21
   refine qM rfl (fun K hK=>?_)
   rw[aao (by rfl)];go_simp;have Hb:Below v.heap.size v (v.alloc (.cells #[.int .i64 0,.int .i64 0] 106)):=(aaj _ _).alloc (aaa _) _;have gi:=hb.trans (Hb.mono hb.size);exact hK _ _ ⟨HS.out _ gi,_,_,_,_,_,_,_,_,_,rfl,gi,preS GQ,f10.keep (by decide),f11.keep (by decide),f12.keep (by decide),f18.keep (by decide),f19.keep (by decide),f20.keep (by decide),o7.lay GV (by decide) hb.size,o8.step (by decide) (by decide) Hb,o9.step (by decide) (by decide) Hb,Apart2.newL o8 (by decide),Apart2.newL o9 (by decide),p89.step (by decide) (by decide)⟩
  ·--22
   refine qM rfl (fun K hK=>?_)
   rw[aao (by rfl)];go_simp;have Hb:Below v.heap.size v (v.alloc (.cells #[.int .i64 0,.int .i64 0] 106)):=(aaj _ _).alloc (aaa _) _;have gi:=hb.trans (Hb.mono hb.size);exact hK _ _ ⟨HS.out _ gi,_,_,_,_,_,_,_,_,_,rfl,gi,preS GQ,f10.keep (by decide),f11.keep (by decide),f12.keep (by decide),f18.keep (by decide),f19.keep (by decide),f20.keep (by decide),o7.step (by decide) (by decide) Hb,o8.lay GV (by decide) hb.size,o9.step (by decide) (by decide) Hb,Apart2.newR o7 (by decide),p79.step (by decide) (by decide),Apart2.newL o9 (by decide)⟩
  ·--23
   refine qM rfl (fun K hK=>?_)
   rw[aao (by rfl)];go_simp;have Hb:Below v.heap.size v (v.alloc (.cells #[.int .i64 0,.int .i64 0] 106)):=(aaj _ _).alloc (aaa _) _;have gi:=hb.trans (Hb.mono hb.size);exact hK _ _ ⟨HS.out _ gi,_,_,_,_,_,_,_,_,_,rfl,gi,preS GQ,f10.keep (by decide),f11.keep (by decide),f12.keep (by decide),f18.keep (by decide),f19.keep (by decide),f20.keep (by decide),o7.step (by decide) (by decide) Hb,o8.step (by decide) (by decide) Hb,o9.lay GV (by decide) hb.size,p78.step (by decide) (by decide),Apart2.newR o7 (by decide),Apart2.newR o8 (by decide)⟩
  ·--24
   have h21:=qX (j:=21) hr rfl k_;obtain⟨g,rfl,hg,hB⟩:=o7.zero h21 GV;obtain⟨b_0,b_1,b_f0,b_f1⟩:=hB.b2;refine qM rfl (fun K hK=>?_)
   rw[aao (by rfl)];go_simp;have gi:=(hb.setCell (p:=⟨g,0,none⟩) hg (.int .i64 (ndI ns k).1)).setCell (p:=⟨g,1,none⟩) hg (.int .i64 (ndI ns k).2);exact hK _ _ ⟨HS.out _ gi,_,_,_,_,_,_,_,_,_,rfl,gi,preS GQ,f10.keep (by decide),f11.keep (by decide),f12.keep (by decide),f18.keep (by decide),f19.keep (by decide),f20.keep (by decide),o7.fill h21 GV rfl (by decide),o8.far (by decide) (by decide) (fun h=>(p78 h21 h).symm) 0 1 _ _,o9.far (by decide) (by decide) (fun h=>(p79 h21 h).symm) 0 1 _ _,p78.step (by decide) (by decide),p79.step (by decide) (by decide),p89.step (by decide) (by decide)⟩
  ·--25
   have h22:=qX (j:=22) hr rfl k_;obtain⟨g,rfl,hg,hB⟩:=o8.zero h22 GV;obtain rfl:=f12 (qX hr rfl k_);obtain⟨b_0,b_1,b_f0,b_f1⟩:=hB.b2;refine qM rfl (fun K hK=>?_)
   rw[aao (by rfl)];go_simp;have gi:=(hb.setCell (p:=⟨g,0,none⟩) hg (.int .i64 (ndI ns t).1)).setCell (p:=⟨g,1,none⟩) hg (.int .i64 (ndI ns t).2);exact hK _ _ ⟨HS.out _ gi,_,_,_,_,_,_,_,_,_,rfl,gi,preS GQ,f10.keep (by decide),f11.keep (by decide),f12.keep (by decide),f18.keep (by decide),f19.keep (by decide),f20.keep (by decide),o7.far (by decide) (by decide) (fun h=>p78 h h22) 0 1 _ _,o8.fill h22 GV rfl (by decide),o9.far (by decide) (by decide) (fun h=>(p89 h22 h).symm) 0 1 _ _,p78.step (by decide) (by decide),p79.step (by decide) (by decide),p89.step (by decide) (by decide)⟩
  ·rw[GQ i hm] at GV;cases GV
 ·intro a v hI
  obtain⟨v7,v8,v9,v20,v21,v22,v28,v29,v30,rfl,hb,GQ,f10,f11,f12,f18,f19,f20,o7,o8,o9,p78,p79,p89⟩:=hI;obtain rfl:=f20 k_;obtain⟨g9,rfl,W9,hB⟩:=o9.zero k_ k_;obtain⟨g7,rfl,Fp,hB7⟩:=o7.full k_;obtain⟨g8,rfl,hg8,Ya⟩:=o8.full k_;have n7:g7≠g9:=fun h=>p79 k_ k_ (by rw[h])
  have n8:g8≠g9:=fun h=>p89 k_ k_ (by rw[h])
  obtain⟨b_0,b_1,b_f0,b_f1⟩:=hB.b2;refine zm (fuel:=0) (n:=26) (i:=26) rfl k_ (fun K hK=>?_)
  rw[aao (by rfl)];go_simp;refine hK _ _ (fun h=>absurd h (by decide)) (fun _=>?_)
  clear hK K;refine jr k_ ?_ _
  have gi:=(hb.setCell (p:=⟨g9,0,none⟩) W9 (.int .i64 (ndI ns u).1)).setCell (p:=⟨g9,1,none⟩) W9 (.int .i64 (ndI ns u).2)
  have uG:Blk ((v.setCell ⟨g9,0,none⟩ (.int .i64 (ndI ns u).1)).setCell ⟨g9,1,none⟩ (.int .i64 (ndI ns u).2)) g9 106 #[.int .i64 (ndI ns u).1,.int .i64 (ndI ns u).2]:=by
   have:=(hB.set_ 0 (.int .i64 (ndI ns u).1)).set_ 1 (.int .i64 (ndI ns u).2)
   simpa using this
  have hB7':=(hB7.far (p:=⟨g9,0,none⟩) n7 (.int .i64 (ndI ns u).1)).far (p:=⟨g9,1,none⟩) n7 (.int .i64 (ndI ns u).2);have uH:=(Ya.far (p:=⟨g9,0,none⟩) n8 (.int .i64 (ndI ns u).1)).far (p:=⟨g9,1,none⟩) n8 (.int .i64 (ndI ns u).2);generalize ((v.setCell ⟨g9,0,none⟩ (.int .i64 (ndI ns u).1)).setCell ⟨g9,1,none⟩ (.int .i64 (ndI ns u).2))=w3 at*;clear hB hB7 Ya b_0 b_1 b_f0 b_f1 hb o7 o8 o9 p78 p79 p89 f10 f11 f12 f18 f19 f20 GQ;obtain⟨b_0,b_1,b_f0,b_f1⟩:=hB7'.b2;obtain⟨c_0,c_1,c_f0,c_f1⟩:=uH.b2;obtain⟨f_0,f_1,f_f0,f_f1⟩:=uG.b2
  by_cases rI:d=e
  ·have e1:((d:Int)==(e:Int))=true:=by simp[rI]
   have HR:Hid (cmpD ns ls k d e=0):=h_ (by simp[cmpD,rI]);go_wp2;go_ret
   exact⟨zi HR.out.symm,gi⟩
  ·have e1:((d:Int)==(e:Int))=false:=by simp;omega
   obtain⟨x,hx⟩:∃x,befB (ndI ns k).1 (ndI ns k).2 (ndI ns t).1 (ndI ns t).2 (ndI ns u).1 (ndI ns u).2=x:=⟨_,rfl⟩
   have HR:Hid (cmpD ns ls k d e=if x then -1 else 1):=h_ (by
    unfold cmpD bfD;rw[aaq rI,ht,hu,hx])
   go_wp2_with fail
   refine(z44 (ndI ns k) (ndI ns t) (ndI ns u) x _ hx).mono ?_
   rintro en w4 ⟨rfl,H5⟩;have Ho:=gi.trans (H5.mono gi.size)
   cases x
   ·go_wp2
    go_ret
    exact⟨zi HR.out.symm,Ho⟩
   ·go_wp2
    go_ret
    exact⟨zi HR.out.symm,Ho⟩
 ·intro j h1 h2
  have:j=26:=by
   have h3:j<27:=h2;omega
  subst this;rfl
 ·refine⟨_,_,_,_,_,_,_,_,_,rfl,(aaj _ _).drew,by decide,Aft.no rfl,Aft.no rfl,Aft.no rfl,Aft.no rfl,Aft.no rfl,Aft.no rfl,One.start rfl rfl,One.start rfl rfl,One.start rfl rfl,Apart2.start rfl,Apart2.start rfl,Apart2.start rfl⟩
def jo (F:List (List Nat)) (d:Nat):Bool:=F.any (·.contains d)
def zG (ns ls:List Pr):Nat->List (List Nat)
 |0=> []
 |m+1=>if jo (zG ns ls m) m then zG ns ls m else zG ns ls m++[qG ns ls m]
theorem vP {ns ls:List Pr} {m:Nat} (h:jo (zG ns ls m) m=true):zG ns ls (m+1)=zG ns ls m:=by simp[zG,h]
theorem kJ {ns ls:List Pr} {m:Nat} (h:jo (zG ns ls m) m=false):zG ns ls (m+1)=zG ns ls m++[qG ns ls m]:=by simp[zG,h]
def zg (ns ls:List Pr):List (List Nat):=zG ns ls (2*ls.length)
theorem kW (ns ls:List Pr):∀m,(zG ns ls m).length <=m
 |0=>by simp[zG]
 |m+1=>by
  have:=kW ns ls m
  cases h:jo (zG ns ls m) m
  ·rw[kJ h];simp;omega
  ·rw[vP h];omega
theorem Qk {ns ls:List Pr} (Hr:∀j:Nat,j<ls.length->zt ns (ndI ls j)=true) {d:Nat} (hd:d<2*ls.length):∀e∈qG ns ls d,e<2*ls.length:=by
 intro e he;unfold qG jw at he;rw[List.mem_map] at he;obtain⟨i,_,rfl⟩:=he;exact xy Hr hd i
theorem Vd {ns ls:List Pr} (Hr:∀j:Nat,j<ls.length->zt ns (ndI ls j)=true) {d:Nat} (hd:d<2*ls.length):0<(qG ns ls d).length /\(qG ns ls d).length <=2*ls.length:=by
 unfold qG;rw[kZ];have:=kw Hr hd;exact⟨this.1,this.2.1⟩
theorem ZD {ns ls:List Pr} (Hr:∀j:Nat,j<ls.length->zt ns (ndI ls j)=true):∀m,m<=2*ls.length->∀f∈zG ns ls m,(∀e∈f,e<2*ls.length)/\0<f.length/\f.length<=2*ls.length
 |0,_,f,hf=>by simp[zG] at hf
 |m+1,hm,f,hf=>by
  cases h:jo (zG ns ls m) m
  ·rw[kJ h,aaI,aa9] at hf
   rcases hf with hf|rfl
   ·exact ZD Hr m o_ f hf
   ·exact⟨Qk Hr o_,Vd Hr o_⟩
  ·rw[vP h] at hf;exact ZD Hr m o_ f hf
def yC (ns ls:List Pr) (d:Nat):Int:=(ndI ns (zd ls d)).1*(ndI ns (dTo ls d)).2 -(ndI ns (zd ls d)).2*(ndI ns (dTo ls d)).1
def yv (ns ls:List Pr) (f:List Nat):Nat->Int
 |0=>0
 |k+1=>yv ns ls f k+yC ns ls (f.getD k 0)
def vy (ns ls:List Pr) (f:List Nat):Int:=yv ns ls f f.length
theorem z6p {ns ls:List Pr} (h:zC ns ls) {d:Nat} (hd:d<2*ls.length): -400<=yC ns ls d/\yC ns ls d<=400:=by
 have Hr:∀j:Nat,j<ls.length->zt ns (ndI ls j)=true:=fun j hj=>(h.2.2.2.2.2 j hj).1
 obtain⟨t,ht,Bh⟩:=jM Hr hd;obtain⟨u,hu,GV⟩:=qL Hr hd;unfold yC;rw[ht,hu];obtain⟨a0,a1,a2,a3⟩:=zF (jY h.2.2.2.1 t Bh);obtain⟨b0,b1,b2,b3⟩:=zF (jY h.2.2.2.1 u GV);generalize (ndI ns (t:Int)).1=x at*;generalize (ndI ns (t:Int)).2=y at*;generalize (ndI ns (u:Int)).1=p at*;generalize (ndI ns (u:Int)).2=q at*;have m1:p*y<=20*20:=Int.mul_le_mul b1 a3 a2 o_;have m2:q*x<=20*20:=Int.mul_le_mul b3 a1 a0 o_;have m3:0<=p*y:=Int.mul_nonneg b0 a2;have m4:0<=q*x:=Int.mul_nonneg b2 a0;omega
theorem VT {ns ls:List Pr} (h:zC ns ls) {f:List Nat} (hf:∀e∈f,e<2*ls.length):∀k,k<=f.length-> -(400*k:Int)<=yv ns ls f k/\yv ns ls f k<=400*k
 |0,_=>by simp[yv]
 |k+1,hk=>by
  have ih:=VT h hf k o_;have hm:f.getD k 0∈f:=by rw[List.getD,aac o_];exact abg _
  have hc:=z6p h (hf _ hm);have e:yv ns ls f (k+1)=yv ns ls f k+yC ns ls (f.getD k 0):=rfl;omega
def jB (ns ls:List Pr) (F:List (List Nat)):Nat->Nat->Int
 |0,_=> -1
 |m+1,k=>if vy ns ls (F.getD k [])<=0 then(k:Int) else jB ns ls F m (k+1)
def z7B (ns ls:List Pr) (F:List (List Nat)):Int:=jB ns ls F F.length 0
theorem QP (ns ls:List Pr) (d i:Nat):∀j,orbD ns ls d (i+j)=orbD ns ls (orbD ns ls d i) j
 |0=>rfl
 |j+1=>by show j4 ns ls (orbD ns ls d (i+j))=_;rw[QP ns ls d i j];rfl
theorem z4L {ns ls:List Pr} {d p:Nat} (h:orbD ns ls d p=d):∀q,orbD ns ls d (p*q)=d
 |0=>rfl
 |q+1=>by rw[Nat.mul_succ,QP,z4L h q,h]
section
variable {ns ls:List Pr} (Hr:∀j:Nat,j<ls.length->zt ns (ndI ls j)=true)
include Hr
theorem yB {d:Nat} (hd:d<2*ls.length) (e:Nat):e∈qG ns ls d↔∃i,orbD ns ls d i=e:=by
 obtain⟨h1,_,h3,_⟩:=kw Hr hd;unfold qG jw;rw[List.mem_map]
 constructor
 ·rintro⟨i,_,h⟩;exact⟨i,h⟩
 ·rintro⟨i,rfl⟩
  refine⟨i%perD ns ls d,List.mem_range.2 (Nat.mod_lt _ h1),?_⟩
  have e:orbD ns ls d (perD ns ls d*(i/perD ns ls d)+i%perD ns ls d)=orbD ns ls d (i%perD ns ls d):=by rw[QP,z4L h3]
  rw[<-e,Nat.div_add_mod]
theorem z0v {d:Nat} (hd:d<2*ls.length):d∈qG ns ls d:=(yB Hr hd d).2 ⟨0,rfl⟩
theorem z3S {d:Nat} (hd:d<2*ls.length):(qG ns ls d).Nodup :=by
 obtain⟨_,_,_,h4⟩:=kw Hr hd;unfold qG jw;rw[List.nodup_iff_pairwise_ne,List.pairwise_map];refine List.Pairwise.imp_of_mem (R:=fun a b=>a<b) (fun {a b} ha hb Hf he=>?_) (List.pairwise_lt_range)
 have gH:=List.mem_range.1 hb;have:=Xk Hr hd a (b -a) (by rw[he,show a+(b -a)=b by omega]);exact h4 (b -a) o_ o_ this
theorem z5t {d e:Nat} (hd:d<2*ls.length) (h:e∈qG ns ls d):d∈qG ns ls e:=by
 have he:=Qk Hr hd e h;obtain⟨_,_,h3,_⟩:=kw Hr hd;unfold qG jw at h;rw[List.mem_map] at h;obtain⟨i,hi,rfl⟩:=h;have fP:=List.mem_range.1 hi;refine(yB Hr he d).2 ⟨perD ns ls d -i,?_⟩
 rw[<-QP,show i+(perD ns ls d -i)=perD ns ls d by omega,h3]
theorem z3x {d e x:Nat} (hd:d<2*ls.length) (h:e∈qG ns ls d) (h2:x∈qG ns ls e):x∈qG ns ls d:=by
 obtain⟨i,hi⟩:=(yB Hr hd e).1 h;obtain⟨j,hj⟩:=(yB Hr (Qk Hr hd e h) x).1 h2;exact(yB Hr hd x).2 ⟨i+j,by rw[QP,hi,hj]⟩
theorem qW:∀m,m<=2*ls.length->(∀d,d<m->d∈(zG ns ls m).flatten)/\(zG ns ls m).flatten.Nodup /\(∀f∈zG ns ls m,∃d,d<2*ls.length/\f=qG ns ls d)
 |0,_=>⟨fun d h=>absurd h o_,by simp[zG],by simp[zG]⟩
 |m+1,hm=>by
  obtain⟨h1,h2,h3⟩:=qW m o_
  cases h:jo (zG ns ls m) m
  ·rw[kJ h]
   have hnm:m∉(zG ns ls m).flatten :=by
    intro hc;rw[List.mem_flatten] at hc;obtain⟨f,hf,hmf⟩:=hc
    have:jo (zG ns ls m) m=true:=by
     unfold jo;rw[List.any_eq_true];exact⟨f,hf,by simpa using hmf⟩
    rw[h] at this;cases this
   refine⟨fun d hd=>?_,?_,fun f hf=>?_⟩
   ·rw[List.flatten_append,aaI]
    by_cases he:d=m
    ·subst he;right;simpa using z0v Hr (show d<2*ls.length by omega)
    ·exact .inl (h1 d o_)
   ·rw[List.flatten_append,List.nodup_append]
    refine⟨h2,by simpa using z3S Hr (show m<2*ls.length by omega),fun x hx y hy=>?_⟩
    rintro rfl;have hy':x∈qG ns ls m:=by simpa using hy
    rw[List.mem_flatten] at hx;obtain⟨f,hf,uF⟩:=hx;obtain⟨d,hd,rfl⟩:=h3 f hf
    apply hnm
    rw[List.mem_flatten];exact⟨_,hf,z3x Hr hd uF (z5t Hr o_ hy')⟩
   ·rw[aaI,aa9] at hf
    rcases hf with hf|rfl
    ·exact h3 f hf
    ·exact⟨m,by omega,rfl⟩
  ·rw[vP h]
   refine⟨fun d hd=>?_,h2,h3⟩
   by_cases he:d=m
   ·subst he
    unfold jo at h;rw[List.any_eq_true] at h;obtain⟨f,hf,R9⟩:=h;rw[List.mem_flatten];exact⟨f,hf,by simpa using R9⟩
   ·exact h1 d o_
theorem z4d:(zg ns ls).flatten.Perm (List.range (2*ls.length)):=by
 obtain⟨h1,h2,h3⟩:=qW Hr (2*ls.length) (aaa _);refine(List.perm_ext_iff_of_nodup h2 List.nodup_range).2 (fun d=>?_)
 rw[aaM]
 constructor
 ·intro h
  rw[List.mem_flatten] at h;obtain⟨f,hf,hd⟩:=h;obtain⟨e,he,rfl⟩:=h3 f hf;exact Qk Hr he d hd
 ·exact h1 d
end
def sumC (ns ls:List Pr) (f:List Nat):Int:=(f.map (yC ns ls)).sum
theorem k8 (ns ls:List Pr) (a b:List Nat):sumC ns ls (a++b)=sumC ns ls a+sumC ns ls b:=by simp[sumC]
theorem z0d (ns ls:List Pr) (f:List Nat):∀k,k<=f.length->yv ns ls f k=sumC ns ls (f.take k)
 |0,_=>rfl
 |k+1,h=>by
  unfold yv;have hk:k<f.length:=o_
  rw[z0d ns ls f k o_,aax hk,k8,show f.getD k 0=f[k] by simp[List.getD,hk]];simp[sumC]
theorem z5r (ns ls:List Pr) (f:List Nat):vy ns ls f=sumC ns ls f:=by
 unfold vy;rw[z0d ns ls f f.length (aaa _),aaA]
theorem z5j (ns ls:List Pr) {a b:List Nat} (h:a.Perm b):sumC ns ls a=sumC ns ls b:=by
 induction h with
 |nil=>rfl
 |cons x _ ih=>simp only[sumC,aaS,List.sum_cons] at ih⊢;omega
 |swap x y l=>simp only[sumC,aaS,List.sum_cons];omega
 |trans _ _ h1 h2=>omega
theorem z3P (ns ls:List Pr) (j:Nat):yC ns ls (2*j)+yC ns ls (2*j+1)=0:=by
 have e1:zd ls (2*j+1)=dTo ls (2*j):=by unfold zd dTo;rw[aao o_,aaq o_,show(2*j+1)/2=j by omega,show 2*j/2=j by omega]
 have e2:dTo ls (2*j+1)=zd ls (2*j):=by unfold zd dTo;rw[aao o_,aaq o_,show(2*j+1)/2=j by omega,show 2*j/2=j by omega]
 unfold yC;rw[e1,e2];rw[Int.mul_comm (ndI ns (dTo ls (2*j))).1,Int.mul_comm (ndI ns (dTo ls (2*j))).2];omega
theorem z0w (ns ls:List Pr):∀m,sumC ns ls (List.range (2*m))=0
 |0=>rfl
 |m+1=>by
  rw[show 2*(m+1)=2*m+1+1 by omega,abe,abe,k8,k8,z0w ns ls m];have:=z3P ns ls m;simp[sumC]
  omega
theorem XQ (ns ls:List Pr):∀F:List (List Nat),sumC ns ls F.flatten=(F.map (vy ns ls)).sum
 | []=>rfl
 |f::F=>by rw[List.flatten_cons,k8,XQ ns ls F,aaS,List.sum_cons,z5r]
theorem z4E:∀l:List Int,l≠ []->(∀x∈l,0<x)->0<l.sum
 | [],h,_=>absurd rfl h
 | [x],_,h=>by have:=h x (by simp);simpa using this
 |x::y::l,_,h=>by
  have h1:=z4E (y::l) (by simp) (fun z hz=>h z (by simp at hz⊢;right;exact hz));have h2:=h x (by simp);rw[List.sum_cons];omega
theorem z84 {ns ls:List Pr} (Hr:∀j:Nat,j<ls.length->zt ns (ndI ls j)=true) (hl:0<ls.length):∃k,k<(zg ns ls).length /\vy ns ls ((zg ns ls).getD k [])<=0:=by
 apply abk
 intro hc;have hs:=XQ ns ls (zg ns ls);rw[z5j ns ls (z4d Hr),z0w] at hs
 have Hv:(zg ns ls).map (vy ns ls)≠ []:=by
  intro he;have h0:=(qW Hr (2*ls.length) (aaa _)).1 0 o_;have:zg ns ls=[]:=by simpa using he
  unfold zg at this;rw[this] at h0;simp at h0
 have hp:=z4E _ Hv (fun x hx=>by
  rw[List.mem_map] at hx;obtain⟨f,hf,rfl⟩:=hx;obtain⟨k,hk,rfl⟩:=aba hf
  apply abk
  intro hle;refine hc ⟨k,hk,?_⟩
  rw[List.getD,aac hk];simp only[Option.getD_some]
  omega)
 omega
theorem ZR (ns ls:List Pr) (F:List (List Nat)):∀(m k:Nat),(∃q,k<=q/\q<k+m/\vy ns ls (F.getD q [])<=0)->∃q:Nat,jB ns ls F m k=q/\k<=q/\q<k+m/\vy ns ls (F.getD q [])<=0
 |0,k,⟨q,h1,h2,_⟩=>absurd h2 o_
 |m+1,k,⟨q,h1,h2,h3⟩=>by
  unfold jB
  split
  ·rename_i h;exact⟨k,rfl,aaa _,by omega,h⟩
  ·rename_i h
   have hq:q≠k:=fun e=>h (e▸h3)
   obtain⟨r,g1,g2,g3,g4⟩:=ZR ns ls F m (k+1) ⟨q,by omega,by omega,h3⟩;exact⟨r,g1,by omega,by omega,g4⟩
theorem z5E {n:Nat} {ls:List Pr} (hl:QA n ls) {c:Nat}:∀k,∀i,i<n->(zJ (2^c) ls k).testBit i=true->(zl n ls ls.length).getD i 0=(zl n ls ls.length).getD c 0:=by
 have step:∀(m:Nat),m<=ls.length->∀s:Nat,(∀i,i<n->s.testBit i=true->(zl n ls ls.length).getD i 0=(zl n ls ls.length).getD c 0)->∀i,i<n->(qk s (ls.take m)).testBit i=true->(zl n ls ls.length).getD i 0=(zl n ls ls.length).getD c 0:=by
  intro m
  induction m with
  |zero=>intro _ s h i hi hb;exact h i hi (by simpa[qk] using hb)
  |succ m ih=>
   intro hm s h i hi hb;have ih':=ih o_ s h;rw[aax o_,ks] at hb;generalize qk s (ls.take m)=t at*;obtain⟨p,q,g1,g2,g3,g4⟩:=hl m o_;have Ft:=QJ hl ls.length (aaa _) m o_ p q g1 g2;rw[qd ls m o_] at g1 g2;have gH:(addS t ls[m]).testBit i=true:=hb;unfold addS at gH;rw[g1,g2,aa5,aa5] at gH
   split at gH
   ·rename_i Cj
    rw[aa1,aa1,aaH,aaH] at gH
    have bk:(zl n ls ls.length).getD p 0=(zl n ls ls.length).getD c 0:=by
     rw[aaH] at Cj
     rcases Cj with h5|h5
     ·exact ih' p g3 h5
     ·rw[Ft];exact ih' q g4 h5
    rcases gH with h5|h5|h5
    ·exact ih' i hi h5
    ·rw[aa2] at h5
     have:p=i:=by simpa using h5
     rw[<-this];exact bk
    ·rw[aa2] at h5
     have:q=i:=by simpa using h5
     rw[<-this,<-Ft];exact bk
   ·exact ih' i hi gH
 intro k
 induction k with
 |zero=>
  intro i hi hb;rw[show zJ (2^c) ls 0=2^c from rfl,aa2] at hb;have:c=i:=by simpa using hb
  rw[this]
 |succ k ih=>
  intro i hi hb;have:=step ls.length (aaa _) (zJ (2^c) ls k) ih i hi;rw[aaA] at this;exact this hb
theorem Vj {S p:Nat} (hp:S.testBit p=true) (hl:∀i,i<p->S.testBit i=false):∀n,(n<=p->memS S n=[])/\(p<n->(memS S n)[0]? =some p)
 |0=>⟨fun _=>rfl,fun h=>absurd h o_⟩
 |n+1=>by
  have ih:=Vj hp hl n
  have e:memS S (n+1)=memS S n++(if S.testBit n=true then [n] else []):=by
   unfold memS;rw[abe,abf]
   congr 1
   by_cases h:S.testBit n=true<;>simp[h]
  constructor
  ·intro h
   rw[e,ih.1 o_,aaq (by rw[hl n o_];simp)];rfl
  ·intro h
   by_cases hn:p<n
   ·rw[e,abc,ih.2 hn]
    have:=ih.2 hn;exact(List.getElem?_eq_some_iff.1 this).1
   ·have hpn:n=p:=o_
    subst hpn;rw[e,ih.1 o_,aao hp];rfl
theorem z3B {n:Nat} {ls:List Pr} (hl:QA n ls) {c:Nat} (hc:c<n):
  ∃p:Nat,(zl n ls ls.length).getD c 0=(p:Int)/\p<=c/\(memS (zJ (2^c) ls n) n)[0]? =some p:=by
 have Gq:∀l∈ls,l.1.toNat <n/\l.2.toNat <n:=by
  intro l hm;obtain⟨j,hj,e⟩:=aba hm;obtain⟨p,q,h1,h2,h3,h4⟩:=hl j hj;rw[qd ls j hj,e] at h1 h2;rw[h1,h2,aa5,aa5];exact⟨h3,h4⟩
 have h1:(2:Nat)^c<2^n:=aa3 o_ hc;have bH:0<(memS (2^c) n).length :=abh (a:=c) (by simp[memS,hc,aby]);have hf:=XS (JJ h1 bH Gq)
 have FT:∀k,(zJ (2^c) ls k).testBit c=true:=by
  intro k
  induction k with
  |zero=>exact aby
  |succ k ih=>exact vX ls _ ih
 have bk:=z5E hl (c:=c) n;have W8:=FT n;generalize zJ (2^c) ls n=S at*;have GB:=Zl hl ls.length (aaa _) c hc
 have Hz:=vE hl (fun i=>S.testBit i=true) (fun j hj p q hp hq=>by
  have:=hf ls[j] (abg hj);rw[qd ls j hj] at hp hq;rw[hp,hq,aa5,aa5] at this;exact this) ls.length (aaa _) c hc
 obtain⟨p,hp⟩:∃p:Nat,(zl n ls ls.length).getD c 0=(p:Int):=⟨((zl n ls ls.length).getD c 0).toNat,(Int.toNat_of_nonneg GB.1).symm⟩;rw[hp,aa5] at Hz;rw[hp] at GB bk;refine⟨p,hp,by omega,(Vj (Hz.1 W8) (fun i hi=>?_) n).2 o_⟩
 cases hb:S.testBit i
 ·rfl
 ·have h2:=bk i o_ hb
  have h3:=Zl hl ls.length (aaa _) i o_;omega
def Conn (n:Nat) (T:List (Nat×Nat)):Prop:=∀C:Nat->Prop,(∀e∈T,(C e.1↔C e.2))->∀i,i<n->(C i↔C 0)
def labE:List (Nat×Nat)->Nat->Nat
 | [],i=>i
 |e::T,i=>if labE T i=labE T e.2 then labE T e.1 else labE T i
theorem Q1:∀(T:List (Nat×Nat)) (e:Nat×Nat),e∈T->labE T e.1=labE T e.2
 | [],e,h=>by simp at h
 |f::T,e,h=>by
  simp only[labE]
  rcases List.mem_cons.1 h with rfl|h
  ·by_cases h1:labE T e.1=labE T e.2
   ·rw[aao h1,aao rfl]
   ·rw[aaq h1,aao rfl]
  ·rw[Q1 T e h]
theorem ZQ {p q:Nat->Bool} {z:Nat}:∀n,(∀i,i<n->i≠z->p i=true->q i=true)->((List.range n).filter p).length <=((List.range n).filter q).length +(if z<n then 1 else 0)
 |0,_=>by simp
 |n+1,h=>by
  have ih:=ZQ n (fun i hi=>h i o_);rw[abe,abf,abf,aaW,aaW]
  by_cases hz:n=z
  ·subst hz
   rw[aaq (aaV n)] at ih;rw[aao (aaB n)];have:(List.filter p [n]).length <=1:=List.length_filter_le p [n];omega
  ·have h1:(List.filter p [n]).length <=(List.filter q [n]).length :=by
    cases hp:p n
    ·simp[hp]
    ·simp[hp,h n o_ hz hp]
   split at ih
   ·rw[aao o_];omega
   ·split<;>omega
theorem VO (n:Nat):∀T:List (Nat×Nat),n<=((List.range n).filter fun i=>labE T i==i).length +T.length
 | []=>by
  have e:(List.range n).filter (fun i=>labE [] i==i)=List.range n:=List.filter_eq_self.2 (fun a _=>by simp[labE]);rw[e];simp
 |e::T=>by
  have ih:=VO n T
  have h:=ZQ (p:=fun i=>labE T i==i) (q:=fun i=>labE (e::T) i==i) (z:=labE T e.2) n (fun i _ hz hp=>by
   have Wf:labE T i=i:=by simpa using hp
   show(labE (e::T) i==i)=true
   simp only[labE]
   rw[aaq (by rw[Wf];exact hz),Wf];simp)
  have h2:(if labE T e.2<n then 1 else 0)<=1:=by split<;>omega
  rw[aaU];omega
theorem z4e {n:Nat} {T:List (Nat×Nat)} (h:Conn n T):n<=T.length+1:=by
 have hc:=h (fun i=>labE T i=labE T 0) (fun e he=>by rw[Q1 T e he]);have h1:=VO n T
 have h2:=ZQ (p:=fun i=>labE T i==i) (q:=fun _=>false) (z:=labE T 0) n (fun i hi hz hp=>by
  have Wf:labE T i=i:=by simpa using hp
  have:=(hc i hi).2 rfl;omega)
 have e:(List.range n).filter (fun _=>false)=[]:=by simp
 rw[e] at h2;have h3:(if labE T 0<n then 1 else 0)<=1:=by split<;>omega
 simp only[List.length_nil] at h2
 omega
def X3 (n m:Nat) (p q:Nat->Nat) (J:Nat->Bool):Prop:=∀C:Nat->Prop,(∀j,j<m->J j=true->(C (p j)↔C (q j)))->∀i,i<n->(C i↔C 0)
def cntJ (m:Nat) (J:Nat->Bool):Nat:=((List.range m).filter J).length
theorem Q8 (m:Nat) (J:Nat->Bool):cntJ (m+1) J=cntJ m J+(if J m=true then 1 else 0):=by
 unfold cntJ;rw[abe,abf,aaW]
 cases h:J m<;>simp[h]
theorem z3p:∀(m:Nat) (J:Nat->Bool),cntJ m J+cntJ m (fun j=> !J j)=m
 |0,_=>rfl
 |m+1,J=>by
  have:=z3p m J;rw[Q8,Q8]
  cases J m<;>simp<;>omega
theorem ZP {J:Nat->Bool} {t:Nat} (ht:J t=true):∀m,cntJ m (fun j=>J j&&j != t)+(if t<m then 1 else 0)=cntJ m J
 |0=>by simp[cntJ]
 |m+1=>by
  have ih:=ZP ht m;rw[Q8,Q8]
  by_cases h:m=t
  ·subst h
   rw[aaq (aaV m)] at ih;rw[aao (aaB m),aao ht];simp
   omega
  ·have e:(J m&&m != t)=J m:=by simp[h]
   rw[e]
   by_cases h2:t<m
   ·rw[aao h2] at ih;rw[aao (show t<m+1 by omega)];omega
   ·rw[aaq h2] at ih;rw[aaq (show ¬t<m+1 by omega)];omega
theorem XO {n m:Nat} {p q:Nat->Nat}:∀(k:Nat) (J:Nat->Bool),cntJ m J<=k->X3 n m p q J->∃J',X3 n m p q J'/\∀t,t<m->J' t=true->¬X3 n m p q (fun j=>J' j&&j != t)
 |0,J,hk,h=>⟨J,h,fun t ht hJ _=>by
  have:=ZP hJ m;rw[aao ht] at this;omega⟩
 |k+1,J,hk,h=>by
  by_cases hc:∃t,t<m/\J t=true/\X3 n m p q (fun j=>J j&&j != t)
  ·obtain⟨t,ht,hJ,hC⟩:=hc
   have:=ZP hJ m;rw[aao ht] at this;exact XO k _ o_ hC
  ·exact⟨J,h,fun t ht hJ hC=>hc ⟨t,ht,hJ,hC⟩⟩
theorem J0 {n m:Nat} {p q:Nat->Nat} {J:Nat->Bool} (h:X3 n m p q J):n<=cntJ m J+1:=by
 have h1:Conn n (((List.range m).filter J).map fun j=>(p j,q j)):=by
  intro C hC i hi;refine h C (fun j hj hJ=>hC (p j,q j) ?_) i hi
  rw[List.mem_map];exact⟨j,List.mem_filter.2 ⟨List.mem_range.2 hj,hJ⟩,rfl⟩
 have:=z4e h1;rw[List.length_map] at this;exact this
def sumR:Nat->(Nat->Int)->Int
 |0,_=>0
 |n+1,f=>sumR n f+f n
theorem yR {f g:Nat->Int}:∀n,(∀i,i<n->f i=g i)->sumR n f=sumR n g
 |0,_=>rfl
 |n+1,h=>by simp only[sumR];rw[yR n (fun i hi=>h i o_),h n o_]
theorem Zz {f:Nat->Int}:∀n,(∀i,i<n->f i=0)->sumR n f=0
 |0,_=>rfl
 |n+1,h=>by simp only[sumR];rw[Zz n (fun i hi=>h i o_),h n o_];rfl
theorem z20 (f g:Nat->Int):∀n,sumR n (fun i=>f i+g i)=sumR n f+sumR n g
 |0=>rfl
 |n+1=>by simp only[sumR];rw[z20 f g n];omega
theorem XL (f:Nat->Nat->Int) (m:Nat):∀n,sumR n (fun i=>sumR m (fun j=>f i j))=sumR m (fun j=>sumR n (fun i=>f i j))
 |0=>(Zz m (fun _ _=>rfl)).symm
 |n+1=>by
  simp only[sumR]
  rw[XL f m n,<-z20]
theorem ZO (f:Nat->Int) (k:Nat):∀n,sumR n (fun i=>if i=k then f i else 0)=if k<n then f k else 0
 |0=>by simp[sumR]
 |n+1=>by
  simp only[sumR]
  rw[ZO f k n]
  by_cases h:n=k
  ·subst h
   rw[aaq (aaV n),aao rfl,aao (aaB n)];omega
  ·rw[aaq h]
   by_cases h2:k<n
   ·rw[aao h2,aao o_];omega
   ·rw[aaq h2,aaq o_];omega
theorem z2v (f:Nat->Int):∀m,sumR (2*m) f=sumR m (fun j=>f (2*j)+f (2*j+1))
 |0=>rfl
 |m+1=>by
  rw[show 2*(m+1)=2*m+1+1 by omega];simp only[sumR]
  rw[z2v f m];omega
theorem QI (f:Nat->Int):∀k,sumR (k+1) f=f 0+sumR k (fun i=>f (i+1))
 |0=>by simp[sumR]
 |k+1=>by
  have:=QI f k;simp only[sumR] at this⊢
  omega
theorem z7n (f:Nat->Int) (n:Nat):sumR n (fun i=>f ((i+n -1)%n))=sumR n f:=by
 match n with
 |0=>rfl
 |k+1=>
  rw[QI];have e0:(0+(k+1) -1)%(k+1)=k:=by rw[show 0+(k+1) -1=k by omega];exact abu (aaB k)
  rw[e0]
  have e1:sumR k (fun i=>f ((i+1+(k+1) -1)%(k+1)))=sumR k f:=yR k (fun i hi=>by
   rw[show i+1+(k+1) -1=i+(k+1) by omega,Nat.add_mod_right,abu o_])
  rw[e1];simp only[sumR]
  omega
theorem Vl (f:Nat->Int):∀R:List Nat,(R.map f).sum =sumR R.length (fun i=>f (R.getD i 0))
 | []=>rfl
 |a::R=>by
  rw[aaS,List.sum_cons,Vl f R,aaU,QI];simp
theorem ZU {β:Type} {f:Nat->Option β} {x:Nat} {L:β} (hp:∀y,y<x->f y=none) (h:f x=some L):∀n,x<n->(List.range n).findSome? f=some L
 |0,hx=>absurd hx o_
 |n+1,hx=>by
  rw[abe,List.findSome?_append]
  by_cases hn:x<n
  ·rw[ZU hp h n hn];rfl
  ·have:x=n:=o_
   subst this
   have h0:(List.range x).findSome? f=none:=by
    rw[List.findSome?_eq_none_iff];intro y hy;exact hp y (List.mem_range.1 hy)
   rw[h0];simp[h]
theorem z2W {β:Type} {f:Nat->Option β} {n:Nat} (hp:∀y,y<n->f y=none):(List.range n).findSome? f=none:=by
 rw[List.findSome?_eq_none_iff];intro y hy;exact hp y (List.mem_range.1 hy)
def srF (adj:Nat->Nat->Bool) (gv:List Int) (n r:Nat) (hd:List Int) (x:Nat):Option (List Int):=if Jd gv hd.length x&&okC adj hd hd.length x then srch adj gv n r (hd++[(x:Int)]) else none
theorem z2x {adj:Nat->Nat->Bool} {gv:List Int} {n r:Nat} {hd L:List Int} {x:Nat} (hx:x<n) (hp:∀y,y<x->srF adj gv n r hd y=none) (h:srF adj gv n r hd x=some L):srch adj gv n (r+1) hd=some L:=
 ZU hp h n hx
theorem z0n {adj:Nat->Nat->Bool} {gv:List Int} {n r:Nat} {hd:List Int} (hp:∀y,y<n->srF adj gv n r hd y=none):srch adj gv n (r+1) hd=none:=
 z2W hp
theorem z80 {adj:Nat->Nat->Bool} {gv:List Int} {n r:Nat} {hd:List Int} {x:Nat} (h:okC adj hd hd.length x=false):srF adj gv n r hd x=none:=by
 unfold srF;rw[h,Bool.and_false];rfl
theorem z6C {adj:Nat->Nat->Bool} {gv:List Int} {n r:Nat} {hd:List Int} {x:Nat} (h1:Jd gv hd.length x=true) (h2:okC adj hd hd.length x=true):srF adj gv n r hd x=srch adj gv n r (hd++[(x:Int)]):=by
 unfold srF;rw[h1,h2];rfl
theorem Qf {f:Nat->Option (List Int)} {x:Nat} (hp:∀y,y<x->f y=none) (h:f x=none):∀y,y<x+1->f y=none:=by
 intro y hy
 by_cases e:y=x
 ·subst e;exact h
 ·exact hp y o_
def okP (adj:Nat->Nat->Bool) (hd:List Int) (k:Nat) (x:Int) (i:Nat):Bool:=(List.range i).all (fun i=> !(adj i k&&(hd.getD i 0==x)))
theorem z2h {adj:Nat->Nat->Bool} {hd:List Int} {k:Nat} {x:Int} {i:Nat}:okP adj hd k x (i+1)=(okP adj hd k x i&& !(adj i k&&(hd.getD i 0==x))):=by
 unfold okP;rw[abe,List.all_append];simp
theorem z6q {adj:Nat->Nat->Bool} {gv:List Int} {n r:Nat} {hd L:List Int} (h:srch adj gv n r hd=some L):L.length=hd.length+r:=by
 induction r generalizing hd with
 |zero=>simp only[srch,Option.some.injEq] at h;subst h;rfl
 |succ r ih=>
  rw[srch] at h;obtain⟨x,hx,hf⟩:=List.exists_of_findSome?_eq_some h
  split at hf
  ·have:=ih hf
   rw[this];simp;omega
  ·cases hf
end Go.Proofs.YtnjcpljhmhdhkaaGreat
