/- part 4 -/
import Derived.Test.YtnjcpljhmhdhkaaGreatUPk3
import Derived.Deep.Upon
set_option linter.unusedSimpArgs false
set_option linter.unusedVariables false
set_option maxRecDepth 100000
set_option maxHeartbeats 8000000
namespace Go.Proofs.YtnjcpljhmhdhkaaGreat
theorem z3I {bf:Nat->Bool} {d e:Nat} {G:List Nat}:e∈insN bf d G↔e=d∨e∈G:=by
 constructor
 ·exact X8
 ·intro h
  unfold insN;rw[aaJ,List.mem_cons]
  rcases h with h|h
  ·exact .inr (.inl h)
  ·rw[<-abp (posN bf G G.length) G,aaJ] at h
   rcases h with h|h
   ·exact .inl h
   ·exact .inr (.inr h)
theorem z55 {bf:Nat->Bool} {d:Nat} {G:List Nat} (h:G.Nodup) (hd:d∉G):(insN bf d G).Nodup :=by
 unfold insN;have hs:=abp (posN bf G G.length) G;generalize G.take (posN bf G G.length)=a at*;generalize G.drop (posN bf G G.length)=b at*;subst hs;rw[List.nodup_append] at h⊢;rw[aaJ,not_or] at hd;obtain⟨h1,h2,h3⟩:=h;refine⟨h1,List.nodup_cons.2 ⟨hd.2,h2⟩,fun x hx y hy=>?_⟩
 rcases List.mem_cons.1 hy with rfl|hy
 ·rintro rfl;exact hd.1 hx
 ·exact h3 x hx y hy
theorem yg (ns ls:List Pr) (k:Nat):∀(m e:Nat),e∈ardS ns ls k m↔e<m/\zc ls e=k
 |0,e=>by simp[ardS]
 |m+1,e=>by
  by_cases h:zc ls m=k
  ·rw[kH h,z3I,yg ns ls k m]
   constructor
   ·rintro(rfl|⟨h1,h2⟩)
    ·exact⟨by omega,h⟩
    ·exact⟨by omega,h2⟩
   ·rintro⟨h1,h2⟩
    by_cases he:e=m
    ·exact .inl he
    ·exact .inr ⟨by omega,h2⟩
  ·rw[Qv h,yg ns ls k m]
   constructor
   ·rintro⟨h1,h2⟩;exact⟨by omega,h2⟩
   ·rintro⟨h1,h2⟩
    refine⟨?_,h2⟩
    by_cases he:e=m
    ·subst he;exact absurd h2 h
    ·omega
theorem vQ (ns ls:List Pr) (k:Nat):∀m,(ardS ns ls k m).Nodup
 |0=>by simp[ardS]
 |m+1=>by
  by_cases h:zc ls m=k
  ·rw[kH h]
   exact z55 (vQ ns ls k m) (fun hm=>by have:=((yg ns ls k m m).1 hm).1;omega)
  ·rw[Qv h];exact vQ ns ls k m
def twin (d:Nat):Nat:=if d%2=0 then d+1 else d -1
theorem vL (d:Nat):twin (twin d)=d:=by unfold twin;split<;>split<;>omega
theorem jv {d m:Nat} (h:d<2*m):twin d<2*m:=by unfold twin;split<;>omega
theorem jy (ls:List Pr) (d:Nat):zc ls (twin d)=dTo ls d:=by
 unfold zc dTo twin
 by_cases h:d%2=0
 ·rw[aao h,aao o_,aaq o_,show(d+1)/2=d/2 by omega]
 ·rw[aaq h,aaq o_,aao o_,show(d -1)/2=d/2 by omega]
theorem z3D (ls:List Pr) (d:Nat):dTo ls (twin d)=zc ls d:=by
 have:=jy ls (twin d);rw[vL] at this;exact this.symm
def qI (ns ls:List Pr) (d:Nat):List Nat:=ardS ns ls (zc ls d).toNat (2*ls.length)
def vj (ns ls:List Pr) (d:Nat):Nat:=(qI ns ls d).getD (((qI ns ls d).idxOf d+(qI ns ls d).length -1)%(qI ns ls d).length) 0
theorem qE {ns ls:List Pr} (Hu:∀j:Nat,j<ls.length->zp ns (ndI ls j)=true) {d:Nat} (hd:d<2*ls.length):∃t:Nat,zc ls d=(t:Int)/\t<ns.length:=by
 have:=jK Hu (jv hd);rw[z3D] at this;exact this
theorem z1x {i j n:Nat} (hi:i<n) (hj:j<n) (h:(i+n -1)%n=(j+n -1)%n):i=j:=by
 rcases abw i with rfl|hi0
 ·rcases abw j with rfl|hj0
  ·rfl
  ·rw[show 0+n -1=n -1 by omega,abv o_,show j+n -1=(j -1)+n by omega,Nat.add_mod_right,abv o_] at h
   omega
 ·rcases abw j with rfl|hj0
  ·rw[show 0+n -1=n -1 by omega,abv (show n -1<n by omega),show i+n -1=(i -1)+n by omega,Nat.add_mod_right,abv (show i -1<n by omega)] at h
   omega
  ·rw[show i+n -1=(i -1)+n by omega,show j+n -1=(j -1)+n by omega,Nat.add_mod_right,Nat.add_mod_right,abv (show i -1<n by omega),abv (show j -1<n by omega)] at h
   omega
section
variable {ns ls:List Pr} (Hu:∀j:Nat,j<ls.length->zp ns (ndI ls j)=true)
include Hu
theorem Xt {d:Nat} (hd:d<2*ls.length) (e:Nat):e∈qI ns ls d↔e<2*ls.length/\zc ls e=zc ls d:=by
 obtain⟨t,ht,_⟩:=qE Hu hd;unfold qI;rw[yg,ht,aa6]
theorem kO {d:Nat} (hd:d<2*ls.length):d∈qI ns ls d:=(Xt Hu hd d).2 ⟨hd,rfl⟩
theorem z37 {d:Nat} (hd:d<2*ls.length):vj ns ls d∈qI ns ls d:=by
 have h:=abi (kO Hu hd);unfold vj;have hk:((qI ns ls d).idxOf d+(qI ns ls d).length -1)%(qI ns ls d).length <(qI ns ls d).length :=Nat.mod_lt _ h;rw[List.getD,aac hk];exact abh hk
theorem z9H {d:Nat} (hd:d<2*ls.length):vj ns ls d<2*ls.length:=((Xt Hu hd _).1 (z37 Hu hd)).1
theorem Jh {d:Nat} (hd:d<2*ls.length):zc ls (vj ns ls d)=zc ls d:=((Xt Hu hd _).1 (z37 Hu hd)).2
theorem z81 {d e:Nat} (hd:d<2*ls.length) (he:e<2*ls.length) (h:vj ns ls d=vj ns ls e):d=e:=by
 have hf:zc ls d=zc ls e:=by rw[<-Jh Hu hd,h,Jh Hu he]
 have hr:qI ns ls d=qI ns ls e:=by unfold qI;rw[hf]
 have h1:=kO Hu hd;have h2:=kO Hu he;rw[hr] at h1;have hp:=abi h2;have hn:(qI ns ls e).Nodup :=vQ _ _ _ _;unfold vj at h;rw[hr] at h;have k1:((qI ns ls e).idxOf d+(qI ns ls e).length -1)%(qI ns ls e).length <(qI ns ls e).length :=Nat.mod_lt _ hp;have k2:((qI ns ls e).idxOf e+(qI ns ls e).length -1)%(qI ns ls e).length <(qI ns ls e).length :=Nat.mod_lt _ hp;rw[List.getD,List.getD,aac k1,aac k2] at h;simp only[Option.getD_some] at h
 have hi:=(List.getElem_inj hn).1 h;have hx:=z1x (abu h1) (abu h2) hi;have g1:=List.getElem_idxOf (abu h1);have g2:=List.getElem_idxOf (abu h2);refine g1.symm.trans (Eq.trans ?_ g2)
 simp only[hx]
end
theorem pigeon:∀(n:Nat) (f:Nat->Nat),(∀i,i<=n->f i<n)->∃i j,i<j/\j<=n/\f i=f j
 |0,f,h=>absurd (h 0 (aaa _)) o_
 |n+1,f,h=>by
  by_cases hc:∃i,i<n+1/\f i=f (n+1)
  ·obtain⟨i,hi,e⟩:=hc
   exact⟨i,n+1,hi,aaa _,e⟩
  ·have gr:∀i,i<n+1->f i≠f (n+1):=fun i hi e=>hc ⟨i,hi,e⟩
   have hl:=h (n+1) (aaa _)
   obtain⟨i,j,h1,h2,h3⟩:=pigeon n (fun i=>if f i<f (n+1) then f i else f i -1) (fun i hi=>by
    have h4:=gr i o_;have h5:=h i o_
    show(if f i<f (n+1) then f i else f i -1)<n
    split<;>omega)
   refine⟨i,j,h1,by omega,?_⟩
   have h4:=gr i o_;have h5:=gr j o_;have h3':(if f i<f (n+1) then f i else f i -1)=(if f j<f (n+1) then f j else f j -1):=h3
   split at h3'<;>split at h3'<;>omega
def qZ (ns ls:List Pr) (d:Nat):Nat:=vj ns ls (twin d)
section
variable {ns ls:List Pr} (Hu:∀j:Nat,j<ls.length->zp ns (ndI ls j)=true)
include Hu
theorem z2v {d:Nat} (hd:d<2*ls.length):qZ ns ls d<2*ls.length:=z9H Hu (jv hd)
theorem z92 {d e:Nat} (hd:d<2*ls.length) (he:e<2*ls.length) (h:qZ ns ls d=qZ ns ls e):d=e:=by
 have:=z81 Hu (jv hd) (jv he) h;rw[<-vL d,this,vL]
end
def orbD (ns ls:List Pr) (d:Nat):Nat->Nat
 |0=>d
 |k+1=>qZ ns ls (orbD ns ls d k)
section
variable {ns ls:List Pr} (Hu:∀j:Nat,j<ls.length->zp ns (ndI ls j)=true)
include Hu
theorem xP {d:Nat} (hd:d<2*ls.length):∀k,orbD ns ls d k<2*ls.length
 |0=>hd
 |k+1=>z2v Hu (xP hd k)
theorem VK {d:Nat} (hd:d<2*ls.length):∀i j,orbD ns ls d i=orbD ns ls d (i+j)->orbD ns ls d j=d
 |0,j,h=>by rw[aaG] at h;exact h.symm
 |i+1,j,h=>by
  refine VK hd i j ?_
  rw[show i+1+j=(i+j)+1 by omega] at h;exact z92 Hu (xP Hu hd i) (xP Hu hd (i+j)) h
theorem z7q {d:Nat} (hd:d<2*ls.length):∃p,0<p/\p<=2*ls.length/\orbD ns ls d p=d:=by
 obtain⟨i,j,h1,h2,h3⟩:=pigeon (2*ls.length) (orbD ns ls d) (fun i _=>xP Hu hd i);refine⟨j -i,by omega,by omega,VK Hu hd i (j -i) ?_⟩
 rw[h3,show i+(j -i)=j by omega]
end
def perF (ns ls:List Pr) (d:Nat):Nat->Nat->Nat
 |0,k=>k
 |m+1,k=>if orbD ns ls d k=d then k else perF ns ls d m (k+1)
def perD (ns ls:List Pr) (d:Nat):Nat:=perF ns ls d (2*ls.length) 1
theorem z0z (ns ls:List Pr) (d:Nat):∀(m k:Nat),(∃p,k<=p/\p<k+m/\orbD ns ls d p=d)->
  k<=perF ns ls d m k/\perF ns ls d m k<k+m/\orbD ns ls d (perF ns ls d m k)=d/\∀j,k<=j->j<perF ns ls d m k->orbD ns ls d j≠d
 |0,k,⟨p,h1,h2,_⟩=>absurd h2 o_
 |m+1,k,⟨p,h1,h2,h3⟩=>by
  unfold perF
  split
  ·rename_i h
   exact⟨aaa _,by omega,h,fun j hj mz=>by omega⟩
  ·rename_i h
   have hp:k≠p:=fun e=>h (e▸h3)
   obtain⟨g1,g2,g3,g4⟩:=z0z ns ls d m (k+1) ⟨p,by omega,by omega,h3⟩;refine⟨by omega,by omega,g3,fun j hj mz=>?_⟩
   by_cases e:j=k
   ·subst e;exact h
   ·exact g4 j o_ mz
theorem kI {ns ls:List Pr} (Hu:∀j:Nat,j<ls.length->zp ns (ndI ls j)=true) {d:Nat} (hd:d<2*ls.length):
  0<perD ns ls d/\perD ns ls d<=2*ls.length/\orbD ns ls d (perD ns ls d)=d/\∀j,0<j->j<perD ns ls d->orbD ns ls d j≠d:=by
 obtain⟨p,h1,h2,h3⟩:=z7q Hu hd;obtain⟨g1,g2,g3,g4⟩:=z0z ns ls d (2*ls.length) 1 ⟨p,by omega,by omega,h3⟩;exact⟨g1,by unfold perD;omega,g3,fun j hj mz=>g4 j o_ mz⟩
def jo (ns ls:List Pr) (d k:Nat):List Nat:=(List.range k).map (orbD ns ls d)
theorem Xv (ns ls:List Pr) (d k:Nat):jo ns ls d (k+1)=jo ns ls d k++[orbD ns ls d k]:=by simp[jo,abf]
theorem xu (ns ls:List Pr) (d k:Nat):(jo ns ls d k).length =k:=by simp[jo]
def qF (ns ls:List Pr) (d:Nat):List Nat:=jo ns ls d (perD ns ls d)
def isoK (lt:Nat->Nat->Bool) (G:List Nat) (i:Nat):List Nat:=(G.take i).foldl (fun S d=>insN (lt d) d S) []
theorem z0G (lt:Nat->Nat->Bool) (G:List Nat):isoK lt G 0=[]:=rfl
theorem J4 (lt:Nat->Nat->Bool) (G:List Nat) (i:Nat) (h:i<G.length):isoK lt G (i+1)=insN (lt G[i]) G[i] (isoK lt G i):=by
 unfold isoK;rw[aax h,List.foldl_append];rfl
theorem jC (lt:Nat->Nat->Bool) (G:List Nat):∀i,i<=G.length->(isoK lt G i).length =i
 |0,_=>rfl
 |i+1,h=>by rw[J4 lt G i o_,JM,jC lt G i o_]
def isoR (lt:Nat->Nat->Bool) (G:List Nat) (i p:Nat):List Int:=gapI (isoK lt G i) p ((G.getD i 0:Nat):Int)++natI (G.drop (i+1))
def isoH (lt:Nat->Nat->Bool) (G:List Nat) (i:Nat):List Int:=natI (isoK lt G i)++natI (G.drop i)
theorem J9 (lt:Nat->Nat->Bool) (G:List Nat):isoH lt G 0=natI G:=by simp[isoH,z0G,natI]
theorem z3p (lt:Nat->Nat->Bool) (G:List Nat):isoH lt G G.length=natI (isoK lt G G.length):=by simp[isoH,natI]
theorem z4c (lt:Nat->Nat->Bool) (G:List Nat) (i p:Nat) (h:i<G.length) (hp:p<=i):(isoR lt G i p).length =G.length:=by
 unfold isoR;rw[aaX,jq _ _ _ (by rw[jC lt G i o_];exact hp),jC lt G i o_,za,List.length_drop];omega
theorem QZ (lt:Nat->Nat->Bool) (G:List Nat) (i:Nat) (h:i<G.length):isoR lt G i i=isoH lt G i:=by
 unfold isoR isoH;have hl:=jC lt G i o_
 have e:gapI (isoK lt G i) i ((G.getD i 0:Nat):Int)=natI (isoK lt G i)++[((G.getD i 0:Nat):Int)]:=by
  have:=J2 (isoK lt G i) ((G.getD i 0:Nat):Int);rw[hl] at this;exact this
 rw[e,aay,aas h,show G.getD i 0=G[i] by simp[List.getD,h]];rfl
theorem z0J (lt:Nat->Nat->Bool) (G:List Nat) (i p:Nat) (h:i<G.length) (hp:p<=i):(isoR lt G i p).getD p 0=((G.getD i 0:Nat):Int):=by
 have hl:=jC lt G i o_;unfold isoR gapI natI;have e:(List.map (fun (d:Nat)=>(d:Int)) ((isoK lt G i).take p)).length =p:=by simp;omega
 rw[List.getD,aay,abc o_,e,aae];rfl
theorem XV (lt:Nat->Nat->Bool) (G:List Nat) (i p:Nat) (h:i<G.length) (hp:p<i):(isoR lt G i (p+1)).getD p 0=(((isoK lt G i).getD p 0:Nat):Int):=by
 have hl:=jC lt G i o_;have h1:=xU (isoK lt G i) p ((G.getD i 0:Nat):Int) o_;have h2:=jq (isoK lt G i) (p+1) ((G.getD i 0:Nat):Int) o_;unfold isoR;rw[List.getD,abd o_];exact h1
theorem z0y (lt:Nat->Nat->Bool) (G:List Nat) (i p:Nat) (h:i<G.length) (hp:p<i):
  ((isoR lt G i (p+1)).set (p+1) (((isoK lt G i).getD p 0:Nat):Int)).set p ((G.getD i 0:Nat):Int)=isoR lt G i p:=by
 have hl:=jC lt G i o_;have h1:=J3 (isoK lt G i) p ((G.getD i 0:Nat):Int) o_;have h2:=jq (isoK lt G i) (p+1) ((G.getD i 0:Nat):Int) o_;have h3:=jq (isoK lt G i) p (((isoK lt G i).getD p 0:Nat):Int) o_;have h4:=Q7 (isoK lt G i) p (((isoK lt G i).getD p 0:Nat):Int) (G.getD i 0) o_;unfold isoR;rw[aan,aao o_,h1,aan,aao o_,h4]
 congr 1
 simp[gapI,natI]
theorem Xi (lt:Nat->Nat->Bool) (G:List Nat) (i:Nat) (h:i<G.length):isoR lt G i (posN (lt G[i]) (isoK lt G i) i)=isoH lt G (i+1):=by
 have hl:=jC lt G i o_;unfold isoR isoH;rw[J4 lt G i h];unfold insN gapI natI;rw[hl];simp[List.getD,h]
def frD (ls:List Pr) (k:Nat):Nat->List Nat
 |0=> []
 |d+1=>if zc ls d=k then frD ls k d++[d] else frD ls k d
theorem z1Z {ls:List Pr} {k d:Nat} (h:¬zc ls d=k):frD ls k (d+1)=frD ls k d:=by simp[frD,h]
theorem Vd {ls:List Pr} {k d:Nat} (h:zc ls d=k):frD ls k (d+1)=frD ls k d++[d]:=by simp[frD,h]
theorem z9s (lt:Nat->Nat->Bool) (G:List Nat) (d:Nat):isoK lt (G++[d]) (G++[d]).length =insN (lt d) d (isoK lt G G.length):=by
 unfold isoK;rw[aaB,aaB,List.foldl_append];rfl
theorem V4 (ns ls:List Pr) (k:Nat):∀m,isoK (bfD ns ls k) (frD ls k m) (frD ls k m).length =ardS ns ls k m
 |0=>rfl
 |m+1=>by
  by_cases h:zc ls m=k
  ·rw[Vd h,z9s,V4 ns ls k m,kH h]
  ·rw[z1Z h,V4 ns ls k m,Qv h]
theorem Xr (ls:List Pr) (k:Nat):∀m e,e∈frD ls k m->e<m/\zc ls e=k
 |0,e,h=>by simp[frD] at h
 |m+1,e,h=>by
  by_cases hf:zc ls m=k
  ·rw[Vd hf,aaJ,aba] at h
   rcases h with h|rfl
   ·have:=Xr ls k m e h;exact⟨by omega,this.2⟩
   ·exact⟨by omega,hf⟩
  ·rw[z1Z hf] at h
   have:=Xr ls k m e h;exact⟨by omega,this.2⟩
open Go.RowKit
attribute [local go_sem ↓] zv zu qb qf
theorem zaq (vn vl:Value) (ns ls:List Pr) (a b:Int) (w:World) (hn:RP w vn ns) (hl:RP w vl ls) (h1:ns.length<=1048576) (h2:ls.length<=1048576) (hw:winB ns ls=false):
  Calls Tryz.prog 107 #[.agg #[vn,vl],.int .i64 a,.int .i64 b] w (zC ns ls false w):=by
 obtain⟨j0,hj,jz0,jz1,jz2⟩:=info_parts jc
 go_enter Tryz.func107,Tryz.ntmps107
 go_wp2_with fail
 refine(qo _ _ ns ls _ (hn.below bel_) (hl.below bel_) h1 h2).mono ?_
 rintro e w3 ⟨An3,cn3,Al3,cl3,rfl,bO,Hf⟩;have fA:=Hf.size;simp at fA
 have Hq:OwnW (w.heap.size+1+1) w3 (.slice An3 ns.length cn3) (.slice Al3 ls.length cl3) ns ls:=by simpa using bO
 have gp:=Hq.lt;have FE:Blk w3 w.heap.size 27 #[vn,vl]:=Blk.below ((Blk.newAt rfl).alloc _) Hf sz_;have GK:Blk w3 (w.heap.size+1) 27 #[.slice none 0 0,.slice none 0 0]:=Blk.below (Blk.newAt (by simp)) Hf sz_;have Hc:Below w.heap.size w w3:=bel_
 go_wp2_with (at_builtin;refine zj rfl _ _ _ rfl (w.heap.size+1+1) 108 j0 Tryz.underlying25 hj jz0 jz1 jz2 (.slice Al3 ls.length cl3) _ ls [(mn2 a b,mx2 a b)] rfl rfl ((Hq.2.1.alloc _).alloc _) (jk (by simp) rfl rfl rfl (by simp[maxLen])) (by simp;omega) (by simp;omega) ?_)
 intro A4 c4 w4 gF GA Bp;have Hk:∀k,(Value.slice Al3 ls.length cl3).ownBlock =some k->w.heap.size+1+1<=k/\k<w3.heap.size:=fun k hk=>gp k (.inr hk)
 have Ca:=((FE.alloc (.cells #[.slice An3 ns.length cn3,.slice Al3 ls.length cl3] 27)).alloc _).grownR GA (fun k hk=>by have:=(Hk k hk).1;omega);have fd:=((GK.alloc (.cells #[.slice An3 ns.length cn3,.slice Al3 ls.length cl3] 27)).alloc _).grownR GA (fun k hk=>by have:=(Hk k hk).1;omega);have ML:Blk w4 w3.heap.size 27 #[.slice An3 ns.length cn3,.slice Al3 ls.length cl3]:=((Blk.newAt rfl).alloc _).grownR GA (fun k hk=>by have:=(Hk k hk).2;omega);have cB:=((Hq.1.alloc (.cells #[.slice An3 ns.length cn3,.slice Al3 ls.length cl3] 27)).alloc _).apart GA (fun k hk Gj=>Hq.2.2 k hk Gj)
 have bM:∀k,(Value.slice A4 (ls.length+1) c4).ownBlock =some k->(w.heap.size+1+1<=k/\k<w3.heap.size)∨k=w3.heap.size+1+1:=by
  intro k hk
  rcases yV Bp hk with h|h
  ·exact .inl (Hk k h)
  ·exact .inr (by simpa using h)
 have Cs:∀k,(Value.slice An3 ns.length cn3).ownBlock =some k->(Value.slice A4 (ls.length+1) c4).ownBlock =some k->False:=by
  intro k hk Gj
  rcases yV Bp Gj with h|h
  ·exact Hq.2.2 k hk h
  ·have h':k=w3.heap.size+1+1:=by simpa using h
   have:=(gp k (.inl hk)).2;omega
 have fN:OwnW (w.heap.size+1+1) w4 (.slice An3 ns.length cn3) (.slice A4 (ls.length+1) c4) ns (ls++[(mn2 a b,mx2 a b)]):=⟨cB,gF,Cs⟩;have Hp:Below w.heap.size w w4:=((Hc.alloc o_ _).alloc sz_ _).grown GA sz_ (fun k hk=>by have:=(Hk k hk).1;omega)
 have fT:=fN.setFar (p:=⟨w3.heap.size,1,none⟩) (by
  rintro(h|h)
  ·have:=(gp _ (.inl h)).2
   exact absurd this (aaW _)
  ·rcases bM _ h with h'|h'
   ·exact absurd h'.2 (aaW _)
   ·have h'':w3.heap.size=w3.heap.size+1+1:=h'
    omega) (.slice A4 (ls.length+1) c4)
 have F1:Blk (w4.setCell ⟨w3.heap.size,1,none⟩ (.slice A4 (ls.length+1) c4)) w3.heap.size 27 #[.slice An3 ns.length cn3,.slice A4 (ls.length+1) c4]:=ML.set_ 1 _;have Cm:=Ca.far (p:=⟨w3.heap.size,1,none⟩) (show ¬w.heap.size=w3.heap.size by omega) (.slice A4 (ls.length+1) c4);have f9:=fd.far (p:=⟨w3.heap.size,1,none⟩) (show ¬w.heap.size+1=w3.heap.size by omega) (.slice A4 (ls.length+1) c4);have Hx:Below w.heap.size w (w4.setCell ⟨w3.heap.size,1,none⟩ (.slice A4 (ls.length+1) c4)):=Hp.setCell (p:=⟨w3.heap.size,1,none⟩) (show w.heap.size<=w3.heap.size by omega) _;obtain⟨t_0,t_1,t_f0,t_f1⟩:=ML.b2;have FO:(w4.setCell ⟨w3.heap.size,1,none⟩ (.slice A4 (ls.length+1) c4)).heap.size =w4.heap.size:=by simp[World.setCell]
 have fG:=Cm.cell 0;have bN:=Cm.cell 1;simp only[abe,aah,aag] at fG bN
 generalize hL:ls++[(mn2 a b,mx2 a b)]=LL at*
 go_wp2_with fail
 refine(zJ _ _ ns ls _ _ (hn.below Hx) (hl.below Hx) hw).mono ?_
 rintro e w6 ⟨rfl,gk⟩;have Ct:=gk.size;have nY:=Cm.below gk Cm.lt;have Fo:=f9.below gk f9.lt;have gJ:Below w.heap.size w w6:=Hx.trans (gk.mono Hx.size);rw[FO] at Ct;obtain⟨a_0,a_1⟩:=nY.c2
 go_wp2_with fail
 refine(qo _ _ ns ls _ (hn.below gJ) (hl.below gJ) h1 h2).mono ?_
 rintro e w8 ⟨An8,cn8,Al8,cl8,rfl,ho8,Br⟩;have Ny:=Fo.below Br Fo.lt;have Fg:Below w.heap.size w w8:=gJ.trans (Br.mono gJ.size);have q1:w.heap.size+1<w6.heap.size:=Fo.lt;obtain⟨r_0,r_1,r_f0,r_f1⟩:=Ny.b2;have hO:=h_ (((ho8.setLow (p:=⟨w.heap.size+1,0,none⟩) q1 (.slice An8 ns.length cn8)).setLow (p:=⟨w.heap.size+1,1,none⟩) q1 (.slice Al8 ls.length cl8)).mono (show w.heap.size<=_ by omega));have HB:=h_ ((Fg.setCell (p:=⟨w.heap.size+1,0,none⟩) sz_ (.slice An8 ns.length cn8)).setCell (p:=⟨w.heap.size+1,1,none⟩) sz_ (.slice Al8 ls.length cl8));go_wp2;exact bodyPost_ret (v:= .tuple #[.agg #[.slice An8 ns.length cn8,.slice Al8 ls.length cl8],.bool false]) (by simp[results,Tryz.results107,go_sem,r_0,r_1]) rfl (zC.mk rfl rfl rfl hO.out HB.out)
theorem VM (vn vl:Value) (ns ls:List Pr) (a b:Int) (w:World) (hn:RP w vn ns) (hl:RP w vl ls) (h1:ns.length<=1048576) (h2:ls.length<=1048576) (hw:winB ns ls=true) (hE:winB ns (ls++[(mn2 a b,mx2 a b)])=false):
  Calls Tryz.prog 107 #[.agg #[vn,vl],.int .i64 a,.int .i64 b] w (zC ns ls false w):=by
 obtain⟨j0,hj,jz0,jz1,jz2⟩:=info_parts jc
 go_enter Tryz.func107,Tryz.ntmps107
 go_wp2_with fail
 refine(qo _ _ ns ls _ (hn.below bel_) (hl.below bel_) h1 h2).mono ?_
 rintro e w3 ⟨An3,cn3,Al3,cl3,rfl,bO,Hf⟩;have fA:=Hf.size;simp at fA
 have Hq:OwnW (w.heap.size+1+1) w3 (.slice An3 ns.length cn3) (.slice Al3 ls.length cl3) ns ls:=by simpa using bO
 have gp:=Hq.lt;have FE:Blk w3 w.heap.size 27 #[vn,vl]:=Blk.below ((Blk.newAt rfl).alloc _) Hf sz_;have GK:Blk w3 (w.heap.size+1) 27 #[.slice none 0 0,.slice none 0 0]:=Blk.below (Blk.newAt (by simp)) Hf sz_;have Hc:Below w.heap.size w w3:=bel_
 go_wp2_with (at_builtin;refine zj rfl _ _ _ rfl (w.heap.size+1+1) 108 j0 Tryz.underlying25 hj jz0 jz1 jz2 (.slice Al3 ls.length cl3) _ ls [(mn2 a b,mx2 a b)] rfl rfl ((Hq.2.1.alloc _).alloc _) (jk (by simp) rfl rfl rfl (by simp[maxLen])) (by simp;omega) (by simp;omega) ?_)
 intro A4 c4 w4 gF GA Bp;have Hk:∀k,(Value.slice Al3 ls.length cl3).ownBlock =some k->w.heap.size+1+1<=k/\k<w3.heap.size:=fun k hk=>gp k (.inr hk)
 have Ca:=((FE.alloc (.cells #[.slice An3 ns.length cn3,.slice Al3 ls.length cl3] 27)).alloc _).grownR GA (fun k hk=>by have:=(Hk k hk).1;omega);have fd:=((GK.alloc (.cells #[.slice An3 ns.length cn3,.slice Al3 ls.length cl3] 27)).alloc _).grownR GA (fun k hk=>by have:=(Hk k hk).1;omega);have ML:Blk w4 w3.heap.size 27 #[.slice An3 ns.length cn3,.slice Al3 ls.length cl3]:=((Blk.newAt rfl).alloc _).grownR GA (fun k hk=>by have:=(Hk k hk).2;omega);have cB:=((Hq.1.alloc (.cells #[.slice An3 ns.length cn3,.slice Al3 ls.length cl3] 27)).alloc _).apart GA (fun k hk Gj=>Hq.2.2 k hk Gj)
 have bM:∀k,(Value.slice A4 (ls.length+1) c4).ownBlock =some k->(w.heap.size+1+1<=k/\k<w3.heap.size)∨k=w3.heap.size+1+1:=by
  intro k hk
  rcases yV Bp hk with h|h
  ·exact .inl (Hk k h)
  ·exact .inr (by simpa using h)
 have Cs:∀k,(Value.slice An3 ns.length cn3).ownBlock =some k->(Value.slice A4 (ls.length+1) c4).ownBlock =some k->False:=by
  intro k hk Gj
  rcases yV Bp Gj with h|h
  ·exact Hq.2.2 k hk h
  ·have h':k=w3.heap.size+1+1:=by simpa using h
   have:=(gp k (.inl hk)).2;omega
 have fN:OwnW (w.heap.size+1+1) w4 (.slice An3 ns.length cn3) (.slice A4 (ls.length+1) c4) ns (ls++[(mn2 a b,mx2 a b)]):=⟨cB,gF,Cs⟩;have Hp:Below w.heap.size w w4:=((Hc.alloc o_ _).alloc sz_ _).grown GA sz_ (fun k hk=>by have:=(Hk k hk).1;omega)
 have fT:=fN.setFar (p:=⟨w3.heap.size,1,none⟩) (by
  rintro(h|h)
  ·have:=(gp _ (.inl h)).2
   exact absurd this (aaW _)
  ·rcases bM _ h with h'|h'
   ·exact absurd h'.2 (aaW _)
   ·have h'':w3.heap.size=w3.heap.size+1+1:=h'
    omega) (.slice A4 (ls.length+1) c4)
 have F1:Blk (w4.setCell ⟨w3.heap.size,1,none⟩ (.slice A4 (ls.length+1) c4)) w3.heap.size 27 #[.slice An3 ns.length cn3,.slice A4 (ls.length+1) c4]:=ML.set_ 1 _;have Cm:=Ca.far (p:=⟨w3.heap.size,1,none⟩) (show ¬w.heap.size=w3.heap.size by omega) (.slice A4 (ls.length+1) c4);have f9:=fd.far (p:=⟨w3.heap.size,1,none⟩) (show ¬w.heap.size+1=w3.heap.size by omega) (.slice A4 (ls.length+1) c4);have Hx:Below w.heap.size w (w4.setCell ⟨w3.heap.size,1,none⟩ (.slice A4 (ls.length+1) c4)):=Hp.setCell (p:=⟨w3.heap.size,1,none⟩) (show w.heap.size<=w3.heap.size by omega) _;obtain⟨t_0,t_1,t_f0,t_f1⟩:=ML.b2;have FO:(w4.setCell ⟨w3.heap.size,1,none⟩ (.slice A4 (ls.length+1) c4)).heap.size =w4.heap.size:=by simp[World.setCell]
 have fG:=Cm.cell 0;have bN:=Cm.cell 1;simp only[abe,aah,aag] at fG bN
 generalize hL:ls++[(mn2 a b,mx2 a b)]=LL at*
 go_wp2_with fail
 refine(zJ _ _ ns ls _ _ (hn.below Hx) (hl.below Hx) hw).mono ?_
 rintro e w6 ⟨rfl,gk⟩;have Ct:=gk.size;have nY:=Cm.below gk Cm.lt;have Fo:=f9.below gk f9.lt;have mO:=F1.below gk F1.lt;have F2:=fT.kept gk;have gJ:Below w.heap.size w w6:=Hx.trans (gk.mono Hx.size);rw[FO] at Ct;obtain⟨t_0,t_1⟩:=mO.c2
 go_wp2_with fail
 refine(zJ _ _ ns LL _ _ F2.1.reads F2.2.1.reads hE).mono ?_
 rintro e w7 ⟨rfl,GT⟩;have Nz:=nY.below GT nY.lt;have CV:=Fo.below GT Fo.lt;have Gl:Below w.heap.size w w7:=gJ.trans (GT.mono gJ.size);obtain⟨a_0,a_1⟩:=Nz.c2
 go_wp2_with fail
 refine(qo _ _ ns ls _ (hn.below Gl) (hl.below Gl) h1 h2).mono ?_
 rintro e w8 ⟨An8,cn8,Al8,cl8,rfl,ho8,Br⟩;have Ny:=CV.below Br CV.lt;have Fg:Below w.heap.size w w8:=Gl.trans (Br.mono Gl.size);have q1:w.heap.size+1<w7.heap.size:=CV.lt;obtain⟨r_0,r_1,r_f0,r_f1⟩:=Ny.b2;have hO:=h_ (((ho8.setLow (p:=⟨w.heap.size+1,0,none⟩) q1 (.slice An8 ns.length cn8)).setLow (p:=⟨w.heap.size+1,1,none⟩) q1 (.slice Al8 ls.length cl8)).mono (show w.heap.size<=_ by omega));have HB:=h_ ((Fg.setCell (p:=⟨w.heap.size+1,0,none⟩) sz_ (.slice An8 ns.length cn8)).setCell (p:=⟨w.heap.size+1,1,none⟩) sz_ (.slice Al8 ls.length cl8));go_wp2;exact bodyPost_ret (v:= .tuple #[.agg #[.slice An8 ns.length cn8,.slice Al8 ls.length cl8],.bool false]) (by simp[results,Tryz.results107,go_sem,r_0,r_1]) rfl (zC.mk rfl rfl rfl hO.out HB.out)
theorem z0f (vn vl:Value) (ns ls:List Pr) (a b:Int) (w:World) (hn:RP w vn ns) (hl:RP w vl ls) (h1:ns.length<=1048576) (h2:ls.length<=1048576) (hw:winB ns ls=true) (hE:winB ns (ls++[(mn2 a b,mx2 a b)])=true):
  Calls Tryz.prog 107 #[.agg #[vn,vl],.int .i64 a,.int .i64 b] w (zC ns (ls++[(mn2 a b,mx2 a b)]) true w):=by
 obtain⟨j0,hj,jz0,jz1,jz2⟩:=info_parts jc
 go_enter Tryz.func107,Tryz.ntmps107
 go_wp2_with fail
 refine(qo _ _ ns ls _ (hn.below bel_) (hl.below bel_) h1 h2).mono ?_
 rintro e w3 ⟨An3,cn3,Al3,cl3,rfl,bO,Hf⟩;have fA:=Hf.size;simp at fA
 have Hq:OwnW (w.heap.size+1+1) w3 (.slice An3 ns.length cn3) (.slice Al3 ls.length cl3) ns ls:=by simpa using bO
 have gp:=Hq.lt;have FE:Blk w3 w.heap.size 27 #[vn,vl]:=Blk.below ((Blk.newAt rfl).alloc _) Hf sz_;have GK:Blk w3 (w.heap.size+1) 27 #[.slice none 0 0,.slice none 0 0]:=Blk.below (Blk.newAt (by simp)) Hf sz_;have Hc:Below w.heap.size w w3:=bel_
 go_wp2_with (at_builtin;refine zj rfl _ _ _ rfl (w.heap.size+1+1) 108 j0 Tryz.underlying25 hj jz0 jz1 jz2 (.slice Al3 ls.length cl3) _ ls [(mn2 a b,mx2 a b)] rfl rfl ((Hq.2.1.alloc _).alloc _) (jk (by simp) rfl rfl rfl (by simp[maxLen])) (by simp;omega) (by simp;omega) ?_)
 intro A4 c4 w4 gF GA Bp;have Hk:∀k,(Value.slice Al3 ls.length cl3).ownBlock =some k->w.heap.size+1+1<=k/\k<w3.heap.size:=fun k hk=>gp k (.inr hk)
 have Ca:=((FE.alloc (.cells #[.slice An3 ns.length cn3,.slice Al3 ls.length cl3] 27)).alloc _).grownR GA (fun k hk=>by have:=(Hk k hk).1;omega);have fd:=((GK.alloc (.cells #[.slice An3 ns.length cn3,.slice Al3 ls.length cl3] 27)).alloc _).grownR GA (fun k hk=>by have:=(Hk k hk).1;omega);have ML:Blk w4 w3.heap.size 27 #[.slice An3 ns.length cn3,.slice Al3 ls.length cl3]:=((Blk.newAt rfl).alloc _).grownR GA (fun k hk=>by have:=(Hk k hk).2;omega);have cB:=((Hq.1.alloc (.cells #[.slice An3 ns.length cn3,.slice Al3 ls.length cl3] 27)).alloc _).apart GA (fun k hk Gj=>Hq.2.2 k hk Gj)
 have bM:∀k,(Value.slice A4 (ls.length+1) c4).ownBlock =some k->(w.heap.size+1+1<=k/\k<w3.heap.size)∨k=w3.heap.size+1+1:=by
  intro k hk
  rcases yV Bp hk with h|h
  ·exact .inl (Hk k h)
  ·exact .inr (by simpa using h)
 have Cs:∀k,(Value.slice An3 ns.length cn3).ownBlock =some k->(Value.slice A4 (ls.length+1) c4).ownBlock =some k->False:=by
  intro k hk Gj
  rcases yV Bp Gj with h|h
  ·exact Hq.2.2 k hk h
  ·have h':k=w3.heap.size+1+1:=by simpa using h
   have:=(gp k (.inl hk)).2;omega
 have fN:OwnW (w.heap.size+1+1) w4 (.slice An3 ns.length cn3) (.slice A4 (ls.length+1) c4) ns (ls++[(mn2 a b,mx2 a b)]):=⟨cB,gF,Cs⟩;have Hp:Below w.heap.size w w4:=((Hc.alloc o_ _).alloc sz_ _).grown GA sz_ (fun k hk=>by have:=(Hk k hk).1;omega)
 have fT:=fN.setFar (p:=⟨w3.heap.size,1,none⟩) (by
  rintro(h|h)
  ·have:=(gp _ (.inl h)).2
   exact absurd this (aaW _)
  ·rcases bM _ h with h'|h'
   ·exact absurd h'.2 (aaW _)
   ·have h'':w3.heap.size=w3.heap.size+1+1:=h'
    omega) (.slice A4 (ls.length+1) c4)
 have F1:Blk (w4.setCell ⟨w3.heap.size,1,none⟩ (.slice A4 (ls.length+1) c4)) w3.heap.size 27 #[.slice An3 ns.length cn3,.slice A4 (ls.length+1) c4]:=ML.set_ 1 _;have Cm:=Ca.far (p:=⟨w3.heap.size,1,none⟩) (show ¬w.heap.size=w3.heap.size by omega) (.slice A4 (ls.length+1) c4);have f9:=fd.far (p:=⟨w3.heap.size,1,none⟩) (show ¬w.heap.size+1=w3.heap.size by omega) (.slice A4 (ls.length+1) c4);have Hx:Below w.heap.size w (w4.setCell ⟨w3.heap.size,1,none⟩ (.slice A4 (ls.length+1) c4)):=Hp.setCell (p:=⟨w3.heap.size,1,none⟩) (show w.heap.size<=w3.heap.size by omega) _;obtain⟨t_0,t_1,t_f0,t_f1⟩:=ML.b2;have FO:(w4.setCell ⟨w3.heap.size,1,none⟩ (.slice A4 (ls.length+1) c4)).heap.size =w4.heap.size:=by simp[World.setCell]
 have Hi:(ls++[(mn2 a b,mx2 a b)]).length =ls.length+1:=by simp
 have fG:=Cm.cell 0;have bN:=Cm.cell 1;simp only[abe,aah,aag] at fG bN
 generalize hL:ls++[(mn2 a b,mx2 a b)]=LL at*
 go_wp2_with fail
 refine(zJ _ _ ns ls _ _ (hn.below Hx) (hl.below Hx) hw).mono ?_
 rintro e w6 ⟨rfl,gk⟩;have Ct:=gk.size;have nY:=Cm.below gk Cm.lt;have Fo:=f9.below gk f9.lt;have mO:=F1.below gk F1.lt;have F2:=fT.kept gk;have gJ:Below w.heap.size w w6:=Hx.trans (gk.mono Hx.size);rw[FO] at Ct;obtain⟨t_0,t_1⟩:=mO.c2
 go_wp2_with fail
 refine(zJ _ _ ns LL _ _ F2.1.reads F2.2.1.reads hE).mono ?_
 rintro e w7 ⟨rfl,GT⟩;have CV:=Fo.below GT Fo.lt;have hT7:=mO.below GT mO.lt;have uT:=F2.kept GT;have Gl:Below w.heap.size w w7:=gJ.trans (GT.mono gJ.size);obtain⟨r_0,r_1,r_f0,r_f1⟩:=CV.b2;obtain⟨t_0,t_1,t_f0,t_f1⟩:=hT7.b2;have hO:=h_ (((uT.setLow (p:=⟨w.heap.size+1,0,none⟩) (show w.heap.size+1<w.heap.size+1+1 by omega) (.slice An3 ns.length cn3)).setLow (p:=⟨w.heap.size+1,1,none⟩) (show w.heap.size+1<w.heap.size+1+1 by omega) (.slice A4 (ls.length+1) c4)).mono (show w.heap.size<=_ by omega));have HB:=h_ ((Gl.setCell (p:=⟨w.heap.size+1,0,none⟩) sz_ (.slice An3 ns.length cn3)).setCell (p:=⟨w.heap.size+1,1,none⟩) sz_ (.slice A4 (ls.length+1) c4));generalize w3.heap.size=B3 at*;go_wp2;exact bodyPost_ret (v:= .tuple #[.agg #[.slice An3 ns.length cn3,.slice A4 (ls.length+1) c4],.bool true]) (by simp[results,Tryz.results107,go_sem,r_0,r_1,t_0,t_1]) rfl (zC.mk rfl rfl Hi.symm hO.out HB.out)
theorem z8f (vn vl:Value) (ns ls:List Pr) (a b:Int) (w:World) (hn:RP w vn ns) (hl:RP w vl ls) (h1:ns.length<=1048576) (h2:ls.length<=1048576):
  Calls Tryz.prog 161 #[.agg #[vn,vl],.int .i64 a,.int .i64 b] w (zC ns (addL ns ls a b) (addB ns ls a b) w):=by
 unfold addL addB
 cases hw:winB ns ls
 ·exact zan vn vl ns ls a b w hn hl h1 h2 hw
 ·cases hE:winB ns (ls++[(mn2 a b,mx2 a b)])
  ·exact XS vn vl ns ls a b w hn hl h1 h2 hw hE
  ·exact z05 vn vl ns ls a b w hn hl h1 h2 hw hE
theorem z8M (vn vl:Value) (ns ls:List Pr) (a b:Int) (w:World) (hn:RP w vn ns) (hl:RP w vl ls) (h1:ns.length<=1048576) (h2:ls.length<=1048576):
  Calls Tryz.prog 107 #[.agg #[vn,vl],.int .i64 a,.int .i64 b] w (zC ns (addL ns ls a b) (addB ns ls a b) w):=by
 unfold addL addB
 cases hw:winB ns ls
 ·exact zaq vn vl ns ls a b w hn hl h1 h2 hw
 ·cases hE:winB ns (ls++[(mn2 a b,mx2 a b)])
  ·exact VM vn vl ns ls a b w hn hl h1 h2 hw hE
  ·exact z0f vn vl ns ls a b w hn hl h1 h2 hw hE
attribute [local go_sem ↓] zv zu qb qf
noncomputable def hasL (ns ls:List Pr) (k:Int):Bool:=winB ns ls&&inB k 0 ((ls.length:Int) -1)
noncomputable def y8 (ns ls:List Pr) (k:Int):List Pr:=if hasL ns ls k then ls.take k.toNat++ls.drop (k.toNat+1) else ls
theorem z2q (vn vl:Value) (ns ls:List Pr) (k:Int) (w:World) (hn:RP w vn ns) (hl:RP w vl ls):
  CB_ 215 #[.agg #[vn,vl],.int .i64 k] w (.bool (hasL ns ls k)):=by
 obtain⟨Al,cl,rfl,Ho,GO,_⟩:=hl.formI;unfold maxLen at GO
 cases hw:winB ns ls
 ·have HR:Hid (hasL ns ls k=false):=h_ (by simp[hasL,hw])
  go_enter Tryz.func215,Tryz.ntmps215
  go_wp2_with fail
  refine(zX _ _ ns ls _ _ (hn.below bel_) (hl.below bel_) hw).mono ?_
  rintro e w1 ⟨rfl,h9⟩;go_wp2;go_ret
  exact⟨z8 HR.out.symm,by exact bel_⟩
 ·have HR:Hid (hasL ns ls k=inB k 0 ((ls.length:Int) -1)):=h_ (by simp[hasL,hw])
  go_enter Tryz.func215,Tryz.ntmps215
  go_wp2_with fail
  refine(zX _ _ ns ls _ _ (hn.below bel_) (hl.below bel_) hw).mono ?_
  rintro e w1 ⟨rfl,h9⟩;(have Gb:=bcC h9)
  go_wp2_with fail
  refine(yS _ _ _ _).mono ?_
  rintro e w' ⟨rfl,rfl⟩;rw[<-HR.out];go_wp2;go_ret
  exact⟨rfl,by exact bel_⟩
theorem JU (vn vl:Value) (ns ls:List Pr) (k:Int) (b:Bool) (w:World) (hn:RP w vn ns) (hl:RP w vl ls) (hb:hasL ns ls k=b):
  CB_ 215 #[.agg #[vn,vl],.int .i64 k] w (.bool b):=by
 subst hb;exact z2q vn vl ns ls k w hn hl
theorem ZZ (ls:List Pr) (k:Nat):(ls.drop k).flatMap prc=(ls.flatMap prc).drop (k*2):=by
 induction ls generalizing k with
 |nil=>simp
 |cons p ls ih=>
  cases k with
  |zero=>simp
  |succ k=>
   rw[List.drop_succ_cons,ih,aam,show(k+1)*2=k*2+2 by omega];simp[prc]
theorem z7k (ls:List Pr) (k:Nat):(ls.take k).flatMap prc=(ls.flatMap prc).take (k*2):=by
 induction ls generalizing k with
 |nil=>simp
 |cons p ls ih=>
  cases k with
  |zero=>simp
  |succ k=>
   rw[List.take_succ_cons,aam,ih,aam,show(k+1)*2=k*2+2 by omega];simp[prc]
theorem xn (g:Nat) (t:TypeId):∀(vs:List Value) (o:Nat) (w:World) (cs:Array Value),w.heap[g]? =some (.cells cs t (0,0))->o+vs.length<=cs.size->
  (w.setCells g o vs).heap[g]? =some (.cells (cs.toList.take o++vs++cs.toList.drop (o+vs.length)).toArray t (0,0)):=by
 intro vs
 induction vs with
 |nil=>
  intro o w cs h ho;simp[World.setCells,h]
 |cons v vs ih=>
  intro o w cs h ho;have h':(w.setCell ⟨g,o,none⟩ v).heap[g]? =some (.cells (cs.setIfInBounds o v) t (0,0)):=Blk.set_ (show Blk w g t cs from h) o v;have:=ih (o+1) (w.setCell ⟨g,o,none⟩ v) (cs.setIfInBounds o v) h' (by simp at ho⊢;omega);have cU:o<cs.toList.length:=by simp at ho⊢;omega
  have e:(cs.setIfInBounds o v).toList =cs.toList.take o++v::cs.toList.drop (o+1):=by
   rw[Array.toList_setIfInBounds,List.set_eq_take_append_cons_drop,aao cU]
  have hl:(cs.toList.take o).length =o:=by simp at cU⊢;omega
  show((w.setCell ⟨g,o,none⟩ v).setCells g (o+1) vs).heap[g]? =_
  rw[this,e]
  have e1:List.take (o+1) (cs.toList.take o++v::cs.toList.drop (o+1))=cs.toList.take o++[v]:=by
   rw[List.take_append,hl];have:o+1 -o=1:=o_
   rw[this,aaL o_];rfl
  have e2:List.drop (o+1+vs.length) (cs.toList.take o++v::cs.toList.drop (o+1))=cs.toList.drop (o+(v::vs).length):=by
   rw[List.drop_append,hl];have h3:o+1+vs.length -o=vs.length+1:=o_
   rw[h3,List.drop_succ_cons,List.drop_drop,List.drop_of_length_le o_];simp
   congr 1
   omega
  rw[e1,e2];simp
theorem zaj {t:TypeId} {base g cap:Nat} {w:World} {ls:List Pr} {k:Nat} (h:OwnP t base w (.slice (some ⟨g,0,none⟩) ls.length cap) ls) (hk:k<ls.length):
  OwnP t base (w.setCells g (k*2) ((ls.drop (k+1)).flatMap prc)) (.slice (some ⟨g,0,none⟩) (ls.length -1) cap) (ls.take k++ls.drop (k+1)):=by
 have ho:w.ownsRow base t 2 (.slice (some ⟨g,0,none⟩) ls.length cap) ls.length (ls.flatMap prc):=h;have Hi:(ls.take k++ls.drop (k+1)).length =ls.length -1:=by simp;omega
 have GB:(ls.flatMap prc).length =ls.length*2:=zK prc 2 (fun _=>rfl) ls;have cD:((ls.drop (k+1)).flatMap prc).length =(ls.length -(k+1))*2:=by rw[zK prc 2 (fun _=>rfl)];simp
 refine⟨zK prc 2 (fun _=>rfl) _,?_⟩
 rcases ho.2 with ⟨e,_⟩|⟨g',cap',cur,e,hb,hh,cO,Co,gj,Fy⟩
 ·cases e
 ·cases e
  have M3:ls.length*2<=cur.size:=by rw[gj];exact Nat.mul_le_mul_right 2 cO
  have Hk:=xn g t ((ls.drop (k+1)).flatMap prc) (k*2) w cur hh (by rw[cD];omega);refine .inr ⟨g,cap,_,by rw[Hi],hb,Hk,by rw[Hi];omega,Co,?_,?_⟩
  ·simp only[List.size_toArray,aaX,abn,List.length_drop,cD,Array.length_toList]
   omega
  ·rw[Hi,aaY,ZZ,z7k,<-Fy]
   have hc:cur.toList.length=cur.size:=Array.length_toList;have uU:(List.take (k*2) cur.toList).length =k*2:=by rw[abn,hc];omega
   have e3:(List.drop ((k+1)*2) (List.take (ls.length*2) cur.toList)).length =(ls.length -1)*2 -k*2:=by rw[List.length_drop,abn,hc];omega
   show List.take ((ls.length -1)*2) (List.take (k*2) cur.toList++_++_)=_
   rw[aay,List.take_append,uU,aaL (by rw[uU];omega),List.take_left' e3,List.take_take,Nat.min_eq_left o_]
theorem yU (g:Nat):∀(vs:List Value) (o:Nat) (w:World),(w.setCells g o vs).heap.size =w.heap.size
 | [],_,_=>rfl
 |v::vs,o,w=>by
  show((w.setCell ⟨g,o,none⟩ v).setCells g (o+1) vs).heap.size =_
  rw[yU g vs];simp[World.setCell]
theorem jG (g:Nat):∀(vs:List Value) (o:Nat) (w:World),(w.setCells g o vs).tape =w.tape
 | [],_,_=>rfl
 |v::vs,o,w=>jG g vs (o+1) (w.setCell ⟨g,o,none⟩ v)
theorem VC {P:Program} {w:World} {t ty e:TypeId} {i:TypeInfo} {base g cap c2:Nat} {ls:List Pr} {k:Nat} (ht:P.underlying t=some (.slice e)) (hi:P.info? e=some i) (H7:i.size=2)
  (h:OwnP e base w (.slice (some ⟨g,0,none⟩) ls.length cap) ls) (hk:k<ls.length):
  (Builtin.append_ #[t,t] ty #[.slice (some ⟨g,0,none⟩) k cap,.slice (if cap=k+1 then some ⟨g,0,none⟩ else some ⟨g,(k+1)*2,none⟩) (ls.length -(k+1)) c2]).run P w=
   .ok (.slice (some ⟨g,0,none⟩) (ls.length -1) cap) (w.setCells g (k*2) ((ls.drop (k+1)).flatMap prc)):=by
 have bP:ls.length<=cap:=by
  obtain⟨A',c',e1,e2,_⟩:=h.reads.form
  cases e1;exact e2
 have cD:((ls.drop (k+1)).flatMap prc).length =(ls.length -(k+1))*2:=by rw[zK prc 2 (fun _=>rfl),List.length_drop]
 have GB:(ls.flatMap prc).length =ls.length*2:=zK prc 2 (fun _=>rfl) ls;have ho:w.ownsRow base e 2 (.slice (some ⟨g,0,none⟩) ls.length cap) ls.length (ls.flatMap prc):=h;have hcell:∀j,j<ls.length*2->w.cell? ⟨g,j,none⟩=(ls.flatMap prc)[j]? :=fun j hj=>ho.cellAt j o_
 have WW:Src P i.size t (.slice (if cap=k+1 then some ⟨g,0,none⟩ else some ⟨g,(k+1)*2,none⟩) (ls.length -(k+1)) c2) (ls.length -(k+1)) ((ls.drop (k+1)).flatMap prc) w:=by
  by_cases fK:cap=k+1
  ·rw[aao fK]
   have e0:ls.length -(k+1)=0:=o_
   refine Src.ofSlice w ht _ _ _ _ (by rw[H7];exact cD) ?_ (XB _)
   intro j u hu;have hj:=(List.getElem?_eq_some_iff.1 hu).1;rw[cD] at hj;omega
  ·rw[aaq fK]
   refine Src.ofSlice w ht _ _ _ _ (by rw[H7];exact cD) ?_ (XB _)
   intro j u hu;have hj:=(List.getElem?_eq_some_iff.1 hu).1;rw[cD] at hj;rw[kL,hcell _ o_,<-hu,ZZ,List.getElem?_drop]
 have hr:=run_append_room_src (P:=P) w t t ty e i ht hi g 0 k cap _ (ls.length -(k+1)) ((ls.drop (k+1)).flatMap prc) WW o_
  (fun j hj=>by rw[cD] at hj;rw[H7,aaG,hcell _ o_,aac o_];rfl)
  (fun j hj=>ho.frozenAt _)
 rw[H7,aaG,show k+(ls.length -(k+1))=ls.length -1 by omega] at hr;exact hr
theorem jL {P:Program} {w:World} {ops:Array Oper} {rest:List Oper} {o:Oper} {a:Act} {Q:Exit->Act->World->Prop} (FH:o.guard=none) (s x:Operand) (t:TypeId)
  (ho:o.op= .call { callee:= .builtin .append,args:= #[s,x],argTypes:= #[t,t] })
  (base:Nat) (e:TypeId) (i:TypeInfo) (ht:P.underlying t=some (.slice e)) (hi:P.info? e=some i) (H7:i.size=2) (g cap c2:Nat) (ls:List Pr) (k:Nat)
  (hs:a.eval s= .slice (some ⟨g,0,none⟩) k cap) (hx:a.eval x= .slice (if cap=k+1 then some ⟨g,0,none⟩ else some ⟨g,(k+1)*2,none⟩) (ls.length -(k+1)) c2)
  (hown:OwnP e base w (.slice (some ⟨g,0,none⟩) ls.length cap) ls) (hk:k<ls.length)
  (h:∀w',OwnP e base w' (.slice (some ⟨g,0,none⟩) (ls.length -1) cap) (ls.take k++ls.drop (k+1))->w.grownBy w' (some g)->wpList P ops Q rest (a.put o.dst (.slice (some ⟨g,0,none⟩) (ls.length -1) cap)) w'):
  wpList P ops Q (o::rest) a w:=
 wpList_plain FH fun K hK=>by
  have GC:=VC (ty:=o.type) (c2:=c2) ht hi H7 hown hk;unfold Oper.wp execOp;simp only[ho,resolve,invoke,builtin,Sem.run_bind,Sem.run_pure,aaZ,List.map_toArray,aaT,aaU,hs,hx,GC]
  exact hK _ _ (h _ (zaj hown hk) ⟨World.os_setCells _ _ _ _,jG _ _ _ _,World.output_setCells _ _ _ _,by rw[yU];exact aaa _,fun i hi gr=>World.heap_setCells_other _ _ _ _ hi (fun e=>gr (by rw[e]))⟩)
theorem z7e (vn vl:Value) (ns ls:List Pr) (k:Nat) (w:World) (hn:RP w vn ns) (hl:RP w vl ls) (h1:ns.length<=1048576) (h2:ls.length<=1048576) (hk:k<ls.length) (hw:hasL ns ls k=true):
  Calls Tryz.prog 162 #[.agg #[vn,vl],.int .i64 k] w (zC ns (ls.take k++ls.drop (k+1)) true w):=by
 obtain⟨j0,hj,jz0,jz1,jz2⟩:=info_parts jc
 go_enter Tryz.func162,Tryz.ntmps162
 go_wp2_with fail
 refine(qC _ _ ns ls _ (hn.below bel_) (hl.below bel_) h1 h2).mono ?_
 rintro e w1 ⟨An1,cn1,Al1,cl1,rfl,Hj,h9⟩;have H8:=h9.size;simp at H8
 have go:OwnW (w.heap.size+1+1) w1 (.slice An1 ns.length cn1) (.slice Al1 ls.length cl1) ns ls:=by simpa using Hj
 have Hr:=go.lt;have fc:Blk w1 w.heap.size 27 #[vn,vl]:=Blk.below ((Blk.newAt rfl).alloc _) h9 sz_;have gu:Blk w1 (w.heap.size+1) 27 #[.slice none 0 0,.slice none 0 0]:=Blk.below (Blk.newAt (by simp)) h9 sz_;have h8:Below w.heap.size w w1:=bel_
 have n1:w.heap.size<w1.heap.size:=o_
 have n2:w.heap.size+1<w1.heap.size:=o_
 obtain⟨a_0,a_1⟩:=fc.c2;have hbs:Below w1.heap.size w1 (w1.alloc (.cells #[.slice An1 ns.length cn1,.slice Al1 ls.length cl1] 27)):=bel_
 have Gx:Below w.heap.size w (w1.alloc (.cells #[.slice An1 ns.length cn1,.slice Al1 ls.length cl1] 27)):=bel_
 go_wp2_with fail
 refine(JU _ _ ns ls _ _ _ (hn.below Gx) (hl.below Gx) hw).mono ?_
 rintro e w2 ⟨rfl,He⟩;have gq:Below w1.heap.size w1 w2:=hbs.trans (He.mono hbs.size);have fh:Blk w2 w1.heap.size 27 #[.slice An1 ns.length cn1,.slice Al1 ls.length cl1]:=Blk.below (Blk.newAt rfl) He sz_;have GF:=gu.below gq n2;have Hm:=go.kept gq;have Ha:Below w.heap.size w w2:=h8.trans (gq.mono h8.size);obtain⟨s_0,s_1,s_f0,s_f1⟩:=fh.b2
 rcases Gf:Hm.2.1.2 with ⟨_,h0⟩|⟨g,cap,cur,e1,mI,hh,cO,Co,FZ⟩
 ·omega
 cases e1
 by_cases fK:cl1=k+1
 ·subst fK
  have c2:(0:Int)<=(k:Int):=o_
  have c3:(k:Int)+1<=(ls.length:Int):=o_
  have c1':(k:Int)<=(k:Int)+1:=o_
  go_wp2_with fail
  have NA:IntKind.i64.wrap ((k:Int)+1)=(k:Int)+1:=aaQ _ o_;have c5:(0:Int)<=(k:Int)+1:=o_
  have c6:((k:Int)+1).toNat =k+1:=o_
  go_still_tail 9,k_
  have hown:=h_ Hm.2.1
  have hgS:¬g=w1.heap.size:=by
   have:=(Hr g (.inr rfl)).2;omega
  go_wp2_with (at_builtin;refine jL (c2:=0) rfl _ _ _ rfl (w.heap.size+1+1) 108 j0 Tryz.underlying25 hj jz1 g (k+1) ls k rfl (by rw[aao rfl,show ls.length -(k+1)=0 by omega];rfl) (OwnP.drew hown.out) hk ?_)
  intro w3 hcut fY;have FX:=Blk.grownR (Blk.drew fh) fY (fun b e=>by cases e;exact hgS);have GK:=Blk.grownR (Blk.drew GF) fY (fun b e=>by cases e;omega);have M4:OwnP 106 (w.heap.size+1+1) w3 (.slice An1 ns.length cn1) ns:=(OwnP.drew Hm.1).apart fY (fun b hb e=>by cases e;exact Hm.2.2 _ hb rfl);have M5:OwnW (w.heap.size+1+1) w3 (.slice An1 ns.length cn1) (.slice (some ⟨g,0,none⟩) (ls.length -1) (k+1)) ns (ls.take k++ls.drop (k+1)):=⟨M4,hcut,fun b hb He=>Hm.2.2 b hb He⟩;have Hc:Below w.heap.size w w3:=(Below.drew Ha).grown fY (by have:=Ha.size;simpa using this) (fun b e=>by cases e;omega)
  have fN:=M5.setFar (p:=⟨w1.heap.size,1,none⟩) (by
   rintro(h|h)
   ·have:=(Hr _ (.inl h)).2
    exact absurd this (aaW _)
   ·have:=(Hr _ (.inr h)).2
    exact absurd this (aaW _)) (.slice (some ⟨g,0,none⟩) (ls.length -1) (k+1))
  have Hp:=Hc.setCell (p:=⟨w1.heap.size,1,none⟩) (show w.heap.size<=w1.heap.size by omega) (.slice (some ⟨g,0,none⟩) (ls.length -1) (k+1));have d1:¬w1.heap.size=w.heap.size+1:=o_
  have hO:=h_ (((fN.setLow (p:=⟨w.heap.size+1,0,none⟩) (show w.heap.size+1<w.heap.size+1+1 by omega) (.slice An1 ns.length cn1)).setLow (p:=⟨w.heap.size+1,1,none⟩) (show w.heap.size+1<w.heap.size+1+1 by omega) (.slice (some ⟨g,0,none⟩) (ls.length -1) (k+1))).mono (show w.heap.size<=_ by omega));have HB:=h_ ((Hp.setCell (p:=⟨w.heap.size+1,0,none⟩) sz_ (.slice An1 ns.length cn1)).setCell (p:=⟨w.heap.size+1,1,none⟩) sz_ (.slice (some ⟨g,0,none⟩) (ls.length -1) (k+1)));have GP:=h_ (show ls.length -1=(ls.take k++ls.drop (k+1)).length by simp;omega);obtain⟨s_0,s_1,s_f0,s_f1⟩:=FX.b2;obtain⟨r_0,r_1,r_f0,r_f1⟩:=GK.b2;generalize List.take k ls++List.drop (k+1) ls=LL at*;generalize w1.heap.size=B1 at*;go_wp2;exact bodyPost_ret (v:= .tuple #[.agg #[.slice An1 ns.length cn1,.slice (some ⟨g,0,none⟩) (ls.length -1) (k+1)],.bool true]) (by simp[results,Tryz.results162,go_sem,r_0,r_1,s_0,s_1,d1]) rfl (zC.mk rfl rfl GP.out hO.out HB.out)
 ·have c1:(k:Int)<=((cl1:Nat):Int):=o_
  have c2:(0:Int)<=(k:Int):=o_
  have c3:(k:Int)+1<=(ls.length:Int):=o_
  go_wp2_with fail
  have NA:IntKind.i64.wrap ((k:Int)+1)=(k:Int)+1:=aaQ _ o_;have c5:(0:Int)<=(k:Int)+1:=o_
  have c6:((k:Int)+1).toNat =k+1:=o_
  go_still_tail 9,k_
  have hown:=h_ Hm.2.1
  have hgS:¬g=w1.heap.size:=by
   have:=(Hr g (.inr rfl)).2;omega
  go_wp2_with (at_builtin;refine jL (c2:=cl1 -(k+1)) rfl _ _ _ rfl (w.heap.size+1+1) 108 j0 Tryz.underlying25 hj jz1 g (cl1) ls k rfl (by rw[aaq fK];rfl) (OwnP.drew hown.out) hk ?_)
  intro w3 hcut fY;have FX:=Blk.grownR (Blk.drew fh) fY (fun b e=>by cases e;exact hgS);have GK:=Blk.grownR (Blk.drew GF) fY (fun b e=>by cases e;omega);have M4:OwnP 106 (w.heap.size+1+1) w3 (.slice An1 ns.length cn1) ns:=(OwnP.drew Hm.1).apart fY (fun b hb e=>by cases e;exact Hm.2.2 _ hb rfl);have M5:OwnW (w.heap.size+1+1) w3 (.slice An1 ns.length cn1) (.slice (some ⟨g,0,none⟩) (ls.length -1) (cl1)) ns (ls.take k++ls.drop (k+1)):=⟨M4,hcut,fun b hb He=>Hm.2.2 b hb He⟩;have Hc:Below w.heap.size w w3:=(Below.drew Ha).grown fY (by have:=Ha.size;simpa using this) (fun b e=>by cases e;omega)
  have fN:=M5.setFar (p:=⟨w1.heap.size,1,none⟩) (by
   rintro(h|h)
   ·have:=(Hr _ (.inl h)).2
    exact absurd this (aaW _)
   ·have:=(Hr _ (.inr h)).2
    exact absurd this (aaW _)) (.slice (some ⟨g,0,none⟩) (ls.length -1) (cl1))
  have Hp:=Hc.setCell (p:=⟨w1.heap.size,1,none⟩) (show w.heap.size<=w1.heap.size by omega) (.slice (some ⟨g,0,none⟩) (ls.length -1) (cl1));have d1:¬w1.heap.size=w.heap.size+1:=o_
  have hO:=h_ (((fN.setLow (p:=⟨w.heap.size+1,0,none⟩) (show w.heap.size+1<w.heap.size+1+1 by omega) (.slice An1 ns.length cn1)).setLow (p:=⟨w.heap.size+1,1,none⟩) (show w.heap.size+1<w.heap.size+1+1 by omega) (.slice (some ⟨g,0,none⟩) (ls.length -1) (cl1))).mono (show w.heap.size<=_ by omega));have HB:=h_ ((Hp.setCell (p:=⟨w.heap.size+1,0,none⟩) sz_ (.slice An1 ns.length cn1)).setCell (p:=⟨w.heap.size+1,1,none⟩) sz_ (.slice (some ⟨g,0,none⟩) (ls.length -1) (cl1)));have GP:=h_ (show ls.length -1=(ls.take k++ls.drop (k+1)).length by simp;omega);obtain⟨s_0,s_1,s_f0,s_f1⟩:=FX.b2;obtain⟨r_0,r_1,r_f0,r_f1⟩:=GK.b2;generalize List.take k ls++List.drop (k+1) ls=LL at*;generalize w1.heap.size=B1 at*;go_wp2;exact bodyPost_ret (v:= .tuple #[.agg #[.slice An1 ns.length cn1,.slice (some ⟨g,0,none⟩) (ls.length -1) (cl1)],.bool true]) (by simp[results,Tryz.results162,go_sem,r_0,r_1,s_0,s_1,d1]) rfl (zC.mk rfl rfl GP.out hO.out HB.out)
attribute [local go_sem ↓] zv zu qb qf
theorem z8G (vn vl:Value) (ns ls:List Pr) (k:Int) (w:World) (hn:RP w vn ns) (hl:RP w vl ls) (h1:ns.length<=1048576) (h2:ls.length<=1048576) (hw:hasL ns ls k=false):
  Calls Tryz.prog 162 #[.agg #[vn,vl],.int .i64 k] w (zC ns ls false w):=by
 go_enter Tryz.func162,Tryz.ntmps162
 go_wp2_with fail
 refine(qC _ _ ns ls _ (hn.below bel_) (hl.below bel_) h1 h2).mono ?_
 rintro e w1 ⟨An1,cn1,Al1,cl1,rfl,Hj,h9⟩;have H8:=h9.size;simp at H8
 have go:OwnW (w.heap.size+1+1) w1 (.slice An1 ns.length cn1) (.slice Al1 ls.length cl1) ns ls:=by simpa using Hj
 have fc:Blk w1 w.heap.size 27 #[vn,vl]:=Blk.below ((Blk.newAt rfl).alloc _) h9 sz_;have gu:Blk w1 (w.heap.size+1) 27 #[.slice none 0 0,.slice none 0 0]:=Blk.below (Blk.newAt (by simp)) h9 sz_;have h8:Below w.heap.size w w1:=bel_
 have n1:w.heap.size<w1.heap.size:=o_
 have n2:w.heap.size+1<w1.heap.size:=o_
 obtain⟨a_0,a_1⟩:=fc.c2;have hbs:Below w1.heap.size w1 (w1.alloc (.cells #[.slice An1 ns.length cn1,.slice Al1 ls.length cl1] 27)):=bel_
 have Gx:Below w.heap.size w (w1.alloc (.cells #[.slice An1 ns.length cn1,.slice Al1 ls.length cl1] 27)):=bel_
 go_wp2_with fail
 refine(JU _ _ ns ls _ _ _ (hn.below Gx) (hl.below Gx) hw).mono ?_
 rintro e w2 ⟨rfl,He⟩;have gq:Below w1.heap.size w1 w2:=hbs.trans (He.mono hbs.size);have fh:Blk w2 w1.heap.size 27 #[.slice An1 ns.length cn1,.slice Al1 ls.length cl1]:=Blk.below (Blk.newAt rfl) He sz_;have GF:=gu.below gq n2;have Hm:=go.kept gq;have Ha:Below w.heap.size w w2:=h8.trans (gq.mono h8.size);obtain⟨s_0,s_1,s_f0,s_f1⟩:=fh.b2;obtain⟨r_0,r_1,r_f0,r_f1⟩:=GF.b2;have hO:=h_ (((Hm.setLow (p:=⟨w.heap.size+1,0,none⟩) sz_ (.slice An1 ns.length cn1)).setLow (p:=⟨w.heap.size+1,1,none⟩) sz_ (.slice Al1 ls.length cl1)).mono (show w.heap.size<=_ by omega));have HB:=h_ ((Ha.setCell (p:=⟨w.heap.size+1,0,none⟩) sz_ (.slice An1 ns.length cn1)).setCell (p:=⟨w.heap.size+1,1,none⟩) sz_ (.slice Al1 ls.length cl1));generalize w1.heap.size=B1 at*;go_wp2;exact bodyPost_ret (v:= .tuple #[.agg #[.slice An1 ns.length cn1,.slice Al1 ls.length cl1],.bool false]) (by simp[results,Tryz.results162,go_sem,r_0,r_1,s_0,s_1]) rfl ⟨_,_,_,_,rfl,hO.out,HB.out⟩
theorem RP.drop {w:World} {b off n c:Nat} {l:List (Int×Int)} (h:RP w (.slice (some ⟨b,off,none⟩) n c) l) (k:Nat) (hk:k<=l.length):
  RP w (.slice (if c=k then some ⟨b,off,none⟩ else some ⟨b,off+k*2,none⟩) (l.length -k) (c -k)) (l.drop k):=by
 obtain⟨h0,A',c',hv,h1,h2,h3⟩:=h
 cases hv
 have Hi:(l.drop k).length =l.length -k:=by simp
 by_cases fK:c=k
 ·rw[aao fK]
  exact⟨zK prc 2 (fun _=>rfl) _,_,_,by rw[Hi],by omega,by omega,fun hn=>by omega⟩
 ·rw[aaq fK]
  refine⟨zK prc 2 (fun _=>rfl) _,_,_,by rw[Hi],by omega,by omega,fun hn=>?_⟩
  obtain⟨b',off',e1,e2,e3⟩:=h3 o_
  cases e1
  refine⟨b,off+k*2,rfl,e2,fun j u hu=>?_⟩
  have:=e3 (k*2+j) u (by rw[<-hu,ZZ,List.getElem?_drop]);rw[<-aak] at this;exact this
theorem z84 (vn vl:Value) (ns ls:List Pr) (k:Int) (w:World) (hn:RP w vn ns) (hl:RP w vl ls) (h1:ns.length<=1048576) (h2:ls.length<=1048576) (hw:hasL ns ls k=false):
  Calls Tryz.prog 108 #[.agg #[vn,vl],.int .i64 k] w (zC ns ls false w):=by
 obtain⟨Al,cl,rfl,Ho,GO,_⟩:=hl.formI;unfold maxLen at GO;have HW:=h_ hw
 go_enter Tryz.func108,Tryz.ntmps108
 go_wp2_with fail
 refine(qo _ _ ns ls _ (hn.below bel_) (hl.below bel_) h1 h2).mono ?_
 rintro e w1 ⟨An1,cn1,Al1,cl1,rfl,Hj,h9⟩;have H8:=h9.size;simp at H8
 have go:OwnW (w.heap.size+1+1) w1 (.slice An1 ns.length cn1) (.slice Al1 ls.length cl1) ns ls:=by simpa using Hj
 have fc:Blk w1 w.heap.size 27 #[vn,.slice Al ls.length cl]:=Blk.below ((Blk.newAt rfl).alloc _) h9 sz_;have gu:Blk w1 (w.heap.size+1) 27 #[.slice none 0 0,.slice none 0 0]:=Blk.below (Blk.newAt (by simp)) h9 sz_;have h8:Below w.heap.size w w1:=bel_
 have n1:w.heap.size<w1.heap.size:=o_
 have n2:w.heap.size+1<w1.heap.size:=o_
 obtain⟨a_0,a_1⟩:=fc.c2;have hbs:Below w1.heap.size w1 (w1.alloc (.cells #[.slice An1 ns.length cn1,.slice Al1 ls.length cl1] 27)):=bel_
 have Gx:Below w.heap.size w (w1.alloc (.cells #[.slice An1 ns.length cn1,.slice Al1 ls.length cl1] 27)):=bel_
 cases hw:winB ns ls
 ·go_wp2_with fail
  refine(zJ _ _ ns ls _ _ (hn.below Gx) (hl.below Gx) hw).mono ?_
  rintro e w2 ⟨rfl,He⟩;have gq:Below w1.heap.size w1 w2:=hbs.trans (He.mono hbs.size);have fh:Blk w2 w1.heap.size 27 #[.slice An1 ns.length cn1,.slice Al1 ls.length cl1]:=Blk.below (Blk.newAt rfl) He sz_;have GF:=gu.below gq n2;have Hm:=go.kept gq;have Ha:Below w.heap.size w w2:=h8.trans (gq.mono h8.size);obtain⟨s_0,s_1,s_f0,s_f1⟩:=fh.b2;obtain⟨r_0,r_1,r_f0,r_f1⟩:=GF.b2;have hO:=h_ (((Hm.setLow (p:=⟨w.heap.size+1,0,none⟩) sz_ (.slice An1 ns.length cn1)).setLow (p:=⟨w.heap.size+1,1,none⟩) sz_ (.slice Al1 ls.length cl1)).mono (show w.heap.size<=_ by omega));have HB:=h_ ((Ha.setCell (p:=⟨w.heap.size+1,0,none⟩) sz_ (.slice An1 ns.length cn1)).setCell (p:=⟨w.heap.size+1,1,none⟩) sz_ (.slice Al1 ls.length cl1));generalize w1.heap.size=B1 at*;go_wp2;exact bodyPost_ret (v:= .tuple #[.agg #[.slice An1 ns.length cn1,.slice Al1 ls.length cl1],.bool false]) (by simp[results,Tryz.results108,go_sem,r_0,r_1,s_0,s_1]) rfl ⟨_,_,_,_,rfl,hO.out,HB.out⟩
 ·have i1:inB k 0 ((ls.length:Int) -1)=false:=by
   have:=HW.out;unfold hasL at this;rw[hw] at this
   simpa using this
  go_wp2_with fail
  refine(zJ _ _ ns ls _ _ (hn.below Gx) (hl.below Gx) hw).mono ?_
  rintro e w2 ⟨rfl,He⟩;(have fa:=bcC He)
  have Fn:=(fc.alloc (.cells #[.slice An1 ns.length cn1,.slice Al1 ls.length cl1] 27)).below He sz_;obtain⟨b_0,b_1⟩:=Fn.c2
  go_wp2_with fail
  refine(zN _ _ _ _ _ i1).mono ?_
  rintro e w' ⟨rfl,rfl⟩;have gq:Below w1.heap.size w1 w2:=hbs.trans (He.mono hbs.size);have fh:Blk w2 w1.heap.size 27 #[.slice An1 ns.length cn1,.slice Al1 ls.length cl1]:=Blk.below (Blk.newAt rfl) He sz_;have GF:=gu.below gq n2;have Hm:=go.kept gq;have Ha:Below w.heap.size w w2:=h8.trans (gq.mono h8.size);obtain⟨s_0,s_1,s_f0,s_f1⟩:=fh.b2;obtain⟨r_0,r_1,r_f0,r_f1⟩:=GF.b2;have hO:=h_ (((Hm.setLow (p:=⟨w.heap.size+1,0,none⟩) sz_ (.slice An1 ns.length cn1)).setLow (p:=⟨w.heap.size+1,1,none⟩) sz_ (.slice Al1 ls.length cl1)).mono (show w.heap.size<=_ by omega));have HB:=h_ ((Ha.setCell (p:=⟨w.heap.size+1,0,none⟩) sz_ (.slice An1 ns.length cn1)).setCell (p:=⟨w.heap.size+1,1,none⟩) sz_ (.slice Al1 ls.length cl1));generalize w1.heap.size=B1 at*;go_wp2;exact bodyPost_ret (v:= .tuple #[.agg #[.slice An1 ns.length cn1,.slice Al1 ls.length cl1],.bool false]) (by simp[results,Tryz.results108,go_sem,r_0,r_1,s_0,s_1]) rfl ⟨_,_,_,_,rfl,hO.out,HB.out⟩
attribute [local go_sem ↓] zv zu qb qf
theorem z0h (vn:Value) (ns ls T D:List Pr) (b off k:Nat) (w:World) (hn:RP w vn ns) (hl:RP w (.slice (some ⟨b,off,none⟩) ls.length (k+1)) ls) (h1:ns.length<=1048576) (h2:ls.length<=1048576) (hk:k<ls.length)
  (hw:winB ns ls=true) (Ho:ls.length<=k+1) (hT:RP w (.slice (some ⟨b,off,none⟩) k (k+1)) T) (Cb:Hid (T.length=k))
  (hD:RP w (.slice (some ⟨b,off,none⟩) 0 0) D) (ut:Hid (D.length=0)):
  Calls Tryz.prog 108 #[.agg #[vn,.slice (some ⟨b,off,none⟩) ls.length (k+1)],.int .i64 k] w (zC ns (T++D) true w):=by
 obtain⟨j0,hj,jz0,jz1,jz2⟩:=info_parts jc;have i1:inB (k:Int) 0 ((ls.length:Int) -1)=true:=zd.2 o_
 go_enter Tryz.func108,Tryz.ntmps108
 go_wp2_with fail
 refine(qo _ _ ns ls _ (hn.below bel_) (hl.below bel_) h1 h2).mono ?_
 rintro e w1 ⟨An1,cn1,Al1,cl1,rfl,Hj,h9⟩;have H8:=h9.size;simp at H8
 have go:OwnW (w.heap.size+1+1) w1 (.slice An1 ns.length cn1) (.slice Al1 ls.length cl1) ns ls:=by simpa using Hj
 have Hr:=go.1.lt;have fc:Blk w1 w.heap.size 27 #[vn,.slice (some ⟨b,off,none⟩) ls.length (k+1)]:=Blk.below ((Blk.newAt rfl).alloc _) h9 sz_;have gu:Blk w1 (w.heap.size+1) 27 #[.slice none 0 0,.slice none 0 0]:=Blk.below (Blk.newAt (by simp)) h9 sz_;have h8:Below w.heap.size w w1:=bel_
 have n1:w.heap.size<w1.heap.size:=o_
 have n2:w.heap.size+1<w1.heap.size:=o_
 obtain⟨a_0,a_1⟩:=fc.c2;have hbs:Below w1.heap.size w1 (w1.alloc (.cells #[.slice An1 ns.length cn1,.slice Al1 ls.length cl1] 27)):=bel_
 have Gx:Below w.heap.size w (w1.alloc (.cells #[.slice An1 ns.length cn1,.slice Al1 ls.length cl1] 27)):=bel_
 go_wp2_with fail
 refine(zJ _ _ ns ls _ _ (hn.below Gx) (hl.below Gx) hw).mono ?_
 rintro e w2 ⟨rfl,He⟩;have Gd:=He.size;(try simp at Gd);(try have gX:=p0_ w w2);(try have gY:=p1_ w w2);(try have fm:=p2_ w w2)
 have Fn:=(fc.alloc (.cells #[.slice An1 ns.length cn1,.slice Al1 ls.length cl1] 27)).below He sz_;have gq:Below w1.heap.size w1 w2:=hbs.trans (He.mono hbs.size);have fh:Blk w2 w1.heap.size 27 #[.slice An1 ns.length cn1,.slice Al1 ls.length cl1]:=Blk.below (Blk.newAt rfl) He sz_;have GF:=gu.below gq n2;have WX:=go.1.kept gq;have Ha:Below w.heap.size w w2:=h8.trans (gq.mono h8.size);have n3:w1.heap.size<w2.heap.size:=fh.lt;obtain⟨a_0,a_1⟩:=Fn.c2
 go_wp2_with fail
 refine(zN _ _ _ _ _ i1).mono ?_
 rintro e w' ⟨rfl,rfl⟩;have c1:(k:Int)<=((k+1):Int):=o_
 have c2:(0:Int)<=(k:Int):=o_
 have c3:(k:Int)+1<=(ls.length:Int):=o_
 have c4':(ls.length:Int)<=(k:Int)+1:=o_
 have c5:(0:Int)<=(k:Int)+1:=o_
 have c6:((k:Int)+1).toNat =k+1:=o_
 have NA:IntKind.i64.wrap ((k:Int)+1)=(k:Int)+1:=aaQ _ o_;have UU:=hT.below Ha;have hD2:=hD.below Ha;have UV:=h_ UU;have HD2:=h_ hD2;obtain⟨s_0,s_1,s_f0,s_f1⟩:=fh.b2;have d1:¬w1.heap.size=w.heap.size+1:=o_
 have d2:¬w1.heap.size=w.heap.size:=o_
 go_wp2_with fail
 go_region_held3 (fun w'=>w'.cell? ⟨w.heap.size,0,none⟩=some vn/\w'.cell? ⟨w.heap.size,1,none⟩=some (.slice (some ⟨b,off,none⟩) ls.length (k+1)))
  (go_keep)
  (first|(refine zo rfl _ _ _ rfl w2.heap.size 108 j0 Tryz.underlying25 hj jz0 jz1 jz2 (.slice (some ⟨w2.heap.size,0,none⟩) 0 0) (.slice (some ⟨b,off,none⟩) k (k+1)) [] T rfl rfl (OwnP.drew (OwnP.made rfl (aaa _))) (RP.below UV.out bel_) (by simp;have:=Cb.out;omega) sz_ ?_;intro A3 c3' w3 Hq gM Fh;(have Hf:=jO (B:=w2.heap.size) gM sz_ sz_);(have fU:=fun (b o:Nat) (h:b<w2.heap.size)=>Hf.cell (p:=⟨b,o,none⟩) h);(have uu:=fun (b o:Nat) (h:b<w2.heap.size)=>Hf.frozen (p:=⟨b,o,none⟩) h);(have fA:=Hf.size);(try simp at fA);(have NB:Below w2.heap.size w2 w3:=by refine Below.trans ?_ Hf;exact bel_);(have bQ:=h_ Hq);clear gM Fh Hq)|(refine zo rfl _ _ _ rfl w2.heap.size 108 j0 Tryz.underlying25 hj jz0 jz1 jz2 (.slice A3 T.length c3') (.slice (some ⟨b,off,none⟩) 0 0) T D rfl rfl bQ.out (RP.below HD2.out NB) (by have:=Cb.out;have:=ut.out;omega) sz_ ?_;intro A4 c4' w4 gF GA Bp;(have mP:Below w2.heap.size w3 w4:=(aaj _ _).grown GA sz_ (fun k hk=>(bQ.out.lt k hk).1));(have Cp:=fun (b o:Nat) (h:b<w2.heap.size)=>mP.cell (p:=⟨b,o,none⟩) h);(have hf4:=fun (b o:Nat) (h:b<w2.heap.size)=>mP.frozen (p:=⟨b,o,none⟩) h);(have F3:=h_ gF);clear GA Bp gF))
 have gF:OwnP 108 w2.heap.size w4 (.slice A4 (T++D).length c4') (T++D):=F3.out;rw[aaX] at gF;have bR:Below w2.heap.size w2 w4:=NB.trans mP;have cB:=WX.kept bR;have Hp:Below w.heap.size w w4:=Ha.trans (bR.mono Ha.size);have fd:=GF.below bR GF.lt;have my:=fh.below bR fh.lt
 have fN:OwnW (w.heap.size+1+1) w4 (.slice An1 ns.length cn1) (.slice A4 (T.length+D.length) c4') ns (T++D):=
  ⟨cB,gF.mono o_,fun k hk Gj=>by have:=(Hr k hk).2;have:=(gF.lt k Gj).1;omega⟩
 have fT:=fN.setFar (p:=⟨w1.heap.size,1,none⟩) (by
  rintro(h|h)
  ·exact absurd (Hr _ h).2 (aaW _)
  ·have:=(gF.lt _ h).1
   have h':w2.heap.size<=w1.heap.size:=this;omega) (.slice A4 (T.length+D.length) c4')
 have Hx:=Hp.setCell (p:=⟨w1.heap.size,1,none⟩) (show w.heap.size<=w1.heap.size by omega) (.slice A4 (T.length+D.length) c4');have M2:Blk (w4.setCell ⟨w1.heap.size,1,none⟩ (.slice A4 (T.length+D.length) c4')) w1.heap.size 27 #[.slice An1 ns.length cn1,.slice A4 (T.length+D.length) c4']:=my.set_ 1 _;have f9:=fd.far (p:=⟨w1.heap.size,1,none⟩) (show ¬w.heap.size+1=w1.heap.size by omega) (.slice A4 (T.length+D.length) c4');have hO:=h_ (((fT.setLow (p:=⟨w.heap.size+1,0,none⟩) (show w.heap.size+1<w.heap.size+1+1 by omega) (.slice An1 ns.length cn1)).setLow (p:=⟨w.heap.size+1,1,none⟩) (show w.heap.size+1<w.heap.size+1+1 by omega) (.slice A4 (T.length+D.length) c4')).mono (show w.heap.size<=_ by omega));have HB:=h_ ((Hx.setCell (p:=⟨w.heap.size+1,0,none⟩) sz_ (.slice An1 ns.length cn1)).setCell (p:=⟨w.heap.size+1,1,none⟩) sz_ (.slice A4 (T.length+D.length) c4'));have GP:=h_ (show T.length+D.length=(T++D).length by simp);obtain⟨s_0,s_1,s_f0,s_f1⟩:=M2.b2;obtain⟨r_0,r_1,r_f0,r_f1⟩:=f9.b2;generalize w4.setCell ⟨w1.heap.size,1,none⟩ (.slice A4 (T.length+D.length) c4')=w5 at*;generalize w1.heap.size=B1 at*;go_wp2;exact bodyPost_ret (v:= .tuple #[.agg #[.slice An1 ns.length cn1,.slice A4 (T.length+D.length) c4'],.bool true]) (by simp[results,Tryz.results108,go_sem,r_0,r_1,s_0,s_1,d1]) rfl (zC.mk rfl rfl GP.out hO.out HB.out)
theorem z0k (vn:Value) (ns ls T D:List Pr) (b off cl k:Nat) (w:World) (hn:RP w vn ns) (hl:RP w (.slice (some ⟨b,off,none⟩) ls.length cl) ls) (h1:ns.length<=1048576) (h2:ls.length<=1048576) (hk:k<ls.length)
  (hw:winB ns ls=true) (Ho:ls.length<=cl) (fK:¬cl=k+1) (hT:RP w (.slice (some ⟨b,off,none⟩) k cl) T) (Cb:Hid (T.length=k))
  (hD:RP w (.slice (some ⟨b,off+(k+1)*2,none⟩) (ls.length -(k+1)) (cl -(k+1))) D) (ut:Hid (D.length=ls.length -(k+1))):
  Calls Tryz.prog 108 #[.agg #[vn,.slice (some ⟨b,off,none⟩) ls.length cl],.int .i64 k] w (zC ns (T++D) true w):=by
 obtain⟨j0,hj,jz0,jz1,jz2⟩:=info_parts jc;have i1:inB (k:Int) 0 ((ls.length:Int) -1)=true:=zd.2 o_
 go_enter Tryz.func108,Tryz.ntmps108
 go_wp2_with fail
 refine(qo _ _ ns ls _ (hn.below bel_) (hl.below bel_) h1 h2).mono ?_
 rintro e w1 ⟨An1,cn1,Al1,cl1,rfl,Hj,h9⟩;have H8:=h9.size;simp at H8
 have go:OwnW (w.heap.size+1+1) w1 (.slice An1 ns.length cn1) (.slice Al1 ls.length cl1) ns ls:=by simpa using Hj
 have Hr:=go.1.lt;have fc:Blk w1 w.heap.size 27 #[vn,.slice (some ⟨b,off,none⟩) ls.length cl]:=Blk.below ((Blk.newAt rfl).alloc _) h9 sz_;have gu:Blk w1 (w.heap.size+1) 27 #[.slice none 0 0,.slice none 0 0]:=Blk.below (Blk.newAt (by simp)) h9 sz_;have h8:Below w.heap.size w w1:=bel_
 have n1:w.heap.size<w1.heap.size:=o_
 have n2:w.heap.size+1<w1.heap.size:=o_
 obtain⟨a_0,a_1⟩:=fc.c2;have hbs:Below w1.heap.size w1 (w1.alloc (.cells #[.slice An1 ns.length cn1,.slice Al1 ls.length cl1] 27)):=bel_
 have Gx:Below w.heap.size w (w1.alloc (.cells #[.slice An1 ns.length cn1,.slice Al1 ls.length cl1] 27)):=bel_
 go_wp2_with fail
 refine(zJ _ _ ns ls _ _ (hn.below Gx) (hl.below Gx) hw).mono ?_
 rintro e w2 ⟨rfl,He⟩;have Gd:=He.size;(try simp at Gd);(try have gX:=p0_ w w2);(try have gY:=p1_ w w2);(try have fm:=p2_ w w2)
 have Fn:=(fc.alloc (.cells #[.slice An1 ns.length cn1,.slice Al1 ls.length cl1] 27)).below He sz_;have gq:Below w1.heap.size w1 w2:=hbs.trans (He.mono hbs.size);have fh:Blk w2 w1.heap.size 27 #[.slice An1 ns.length cn1,.slice Al1 ls.length cl1]:=Blk.below (Blk.newAt rfl) He sz_;have GF:=gu.below gq n2;have WX:=go.1.kept gq;have Ha:Below w.heap.size w w2:=h8.trans (gq.mono h8.size);have n3:w1.heap.size<w2.heap.size:=fh.lt;obtain⟨a_0,a_1⟩:=Fn.c2
 go_wp2_with fail
 refine(zN _ _ _ _ _ i1).mono ?_
 rintro e w' ⟨rfl,rfl⟩;have c1:(k:Int)<=(cl:Int):=o_
 have c2:(0:Int)<=(k:Int):=o_
 have c3:(k:Int)+1<=(ls.length:Int):=o_
 have c5:(0:Int)<=(k:Int)+1:=o_
 have c6:((k:Int)+1).toNat =k+1:=o_
 have NA:IntKind.i64.wrap ((k:Int)+1)=(k:Int)+1:=aaQ _ o_;have UU:=hT.below Ha;have hD2:=hD.below Ha;have UV:=h_ UU;have HD2:=h_ hD2;obtain⟨s_0,s_1,s_f0,s_f1⟩:=fh.b2;have d1:¬w1.heap.size=w.heap.size+1:=o_
 have d2:¬w1.heap.size=w.heap.size:=o_
 go_wp2_with fail
 go_region_held3 (fun w'=>w'.cell? ⟨w.heap.size,0,none⟩=some vn/\w'.cell? ⟨w.heap.size,1,none⟩=some (.slice (some ⟨b,off,none⟩) ls.length (cl)))
  (go_keep)
  (first|(refine zo rfl _ _ _ rfl w2.heap.size 108 j0 Tryz.underlying25 hj jz0 jz1 jz2 (.slice (some ⟨w2.heap.size,0,none⟩) 0 0) (.slice (some ⟨b,off,none⟩) k (cl)) [] T rfl rfl (OwnP.drew (OwnP.made rfl (aaa _))) (RP.below UV.out bel_) (by simp;have:=Cb.out;omega) sz_ ?_;intro A3 c3' w3 Hq gM Fh;(have Hf:=jO (B:=w2.heap.size) gM sz_ sz_);(have fU:=fun (b o:Nat) (h:b<w2.heap.size)=>Hf.cell (p:=⟨b,o,none⟩) h);(have uu:=fun (b o:Nat) (h:b<w2.heap.size)=>Hf.frozen (p:=⟨b,o,none⟩) h);(have fA:=Hf.size);(try simp at fA);(have NB:Below w2.heap.size w2 w3:=by refine Below.trans ?_ Hf;exact bel_);(have bQ:=h_ Hq);clear gM Fh Hq)|(refine zo rfl _ _ _ rfl w2.heap.size 108 j0 Tryz.underlying25 hj jz0 jz1 jz2 (.slice A3 T.length c3') (.slice (some ⟨b,off+(k+1)*2,none⟩) (ls.length -(k+1)) (cl -(k+1))) T D rfl rfl bQ.out (RP.below HD2.out NB) (by have:=Cb.out;have:=ut.out;omega) sz_ ?_;intro A4 c4' w4 gF GA Bp;(have mP:Below w2.heap.size w3 w4:=(aaj _ _).grown GA sz_ (fun k hk=>(bQ.out.lt k hk).1));(have Cp:=fun (b o:Nat) (h:b<w2.heap.size)=>mP.cell (p:=⟨b,o,none⟩) h);(have hf4:=fun (b o:Nat) (h:b<w2.heap.size)=>mP.frozen (p:=⟨b,o,none⟩) h);(have F3:=h_ gF);clear GA Bp gF))
 have gF:OwnP 108 w2.heap.size w4 (.slice A4 (T++D).length c4') (T++D):=F3.out;rw[aaX] at gF;have bR:Below w2.heap.size w2 w4:=NB.trans mP;have cB:=WX.kept bR;have Hp:Below w.heap.size w w4:=Ha.trans (bR.mono Ha.size);have fd:=GF.below bR GF.lt;have my:=fh.below bR fh.lt
 have fN:OwnW (w.heap.size+1+1) w4 (.slice An1 ns.length cn1) (.slice A4 (T.length+D.length) c4') ns (T++D):=
  ⟨cB,gF.mono o_,fun k hk Gj=>by have:=(Hr k hk).2;have:=(gF.lt k Gj).1;omega⟩
 have fT:=fN.setFar (p:=⟨w1.heap.size,1,none⟩) (by
  rintro(h|h)
  ·exact absurd (Hr _ h).2 (aaW _)
  ·have:=(gF.lt _ h).1
   have h':w2.heap.size<=w1.heap.size:=this;omega) (.slice A4 (T.length+D.length) c4')
 have Hx:=Hp.setCell (p:=⟨w1.heap.size,1,none⟩) (show w.heap.size<=w1.heap.size by omega) (.slice A4 (T.length+D.length) c4');have M2:Blk (w4.setCell ⟨w1.heap.size,1,none⟩ (.slice A4 (T.length+D.length) c4')) w1.heap.size 27 #[.slice An1 ns.length cn1,.slice A4 (T.length+D.length) c4']:=my.set_ 1 _;have f9:=fd.far (p:=⟨w1.heap.size,1,none⟩) (show ¬w.heap.size+1=w1.heap.size by omega) (.slice A4 (T.length+D.length) c4');have hO:=h_ (((fT.setLow (p:=⟨w.heap.size+1,0,none⟩) (show w.heap.size+1<w.heap.size+1+1 by omega) (.slice An1 ns.length cn1)).setLow (p:=⟨w.heap.size+1,1,none⟩) (show w.heap.size+1<w.heap.size+1+1 by omega) (.slice A4 (T.length+D.length) c4')).mono (show w.heap.size<=_ by omega));have HB:=h_ ((Hx.setCell (p:=⟨w.heap.size+1,0,none⟩) sz_ (.slice An1 ns.length cn1)).setCell (p:=⟨w.heap.size+1,1,none⟩) sz_ (.slice A4 (T.length+D.length) c4'));have GP:=h_ (show T.length+D.length=(T++D).length by simp);obtain⟨s_0,s_1,s_f0,s_f1⟩:=M2.b2;obtain⟨r_0,r_1,r_f0,r_f1⟩:=f9.b2;generalize w4.setCell ⟨w1.heap.size,1,none⟩ (.slice A4 (T.length+D.length) c4')=w5 at*;generalize w1.heap.size=B1 at*;go_wp2;exact bodyPost_ret (v:= .tuple #[.agg #[.slice An1 ns.length cn1,.slice A4 (T.length+D.length) c4'],.bool true]) (by simp[results,Tryz.results108,go_sem,r_0,r_1,s_0,s_1,d1]) rfl (zC.mk rfl rfl GP.out hO.out HB.out)
theorem XW {ns ls:List Pr} {k:Int} (h:hasL ns ls k=true):winB ns ls=true/\∃m:Nat,k=(m:Int)/\m<ls.length:=by
 unfold hasL at h;rw[aaH] at h;have:=zd.1 h.2;exact⟨h.1,k.toNat,by omega,by omega⟩
theorem z6Y (vn vl:Value) (ns ls:List Pr) (k:Int) (w:World) (hn:RP w vn ns) (hl:RP w vl ls) (h1:ns.length<=1048576) (h2:ls.length<=1048576):
  Calls Tryz.prog 162 #[.agg #[vn,vl],.int .i64 k] w (zC ns (y8 ns ls k) (hasL ns ls k) w):=by
 unfold y8
 cases hw:hasL ns ls k
 ·exact z8G vn vl ns ls k w hn hl h1 h2 hw
 ·obtain⟨_,m,rfl,hm⟩:=XW hw
  have:=z7e vn vl ns ls m w hn hl h1 h2 hm hw
  simpa using this
theorem z7C (vn vl:Value) (ns ls:List Pr) (k:Int) (w:World) (hn:RP w vn ns) (hl:RP w vl ls) (h1:ns.length<=1048576) (h2:ls.length<=1048576):
  Calls Tryz.prog 108 #[.agg #[vn,vl],.int .i64 k] w (zC ns (y8 ns ls k) (hasL ns ls k) w):=by
 unfold y8
 cases hw:hasL ns ls k
 ·exact z84 vn vl ns ls k w hn hl h1 h2 hw
 ·obtain⟨Hn,m,rfl,hm⟩:=XW hw
  obtain⟨Al,cl,rfl,Ho,_,hcell⟩:=hl.form;obtain⟨b,off,rfl,_⟩:=hcell o_;have e:ls.take (m:Int).toNat ++ls.drop ((m:Int).toNat +1)=ls.take m++ls.drop (m+1):=by simp
  rw[aao rfl,e];have hT:=RP.take hl m o_;have hD:=RP.drop hl (m+1) o_;have Cb:Hid ((ls.take m).length =m):=h_ (by simp;omega)
  by_cases fK:cl=m+1
  ·subst fK
   rw[aao rfl] at hD;have e0:ls.length -(m+1)=0:=o_
   rw[e0,aae] at hD;exact z0h vn ns ls _ _ b off m w hn hl h1 h2 hm Hn Ho hT Cb hD (h_ (by simp;omega))
  ·rw[aaq fK] at hD
   exact z0k vn ns ls _ _ b off cl m w hn hl h1 h2 hm Hn Ho fK hT Cb hD (h_ (by simp))
theorem z1V {a b:List Pr} {i:Nat} (h:i<a.length):ndI (a++b) (i:Int)=ndI a (i:Int):=by
 rw[qd _ _ (by simp;omega),qd _ _ h,aad h]
theorem z1p {ns ls:List Pr} (h:zL ns ls) {i k:Nat} (hi:i<ls.length) (hk:k<ls.length) (gr:i≠k):qW ns (ndI ls k) (ndI ls i)=false:=by
 rcases Nat.lt_or_gt_of_ne gr with h1|h1
 ·exact(h.2.2.2.2.2 k hk).2.1 i h1
 ·rw[Q8];exact(h.2.2.2.2.2 i hi).2.1 k h1
theorem z8N {ns ls ms:List Pr} (h:zL ns ls) (hl:ms.length<=20) (f:Nat->Nat) (hf:∀i,i<ms.length->f i<ls.length/\ndI ms (i:Nat)=ndI ls (f i:Nat)) (hinj:∀i j,i<ms.length->j<ms.length->f i=f j->i=j):zL ns ms:=by
 refine⟨h.1,h.2.1,hl,h.2.2.2.1,h.2.2.2.2.1,fun k hk=>?_⟩
 obtain⟨h1,h2⟩:=hf k hk;rw[LdOk,h2];refine⟨(h.2.2.2.2.2 _ h1).1,fun j hj=>?_,(h.2.2.2.2.2 _ h1).2.2⟩
 obtain⟨h3,h4⟩:=hf j o_;rw[h4];exact z1p h h3 h1 (fun e=>by have:=hinj j k o_ hk e;omega)
theorem X9 {ls:List Pr} {k:Nat} (hk:k<ls.length) (i:Nat) (hi:i<(ls.take k++ls.drop (k+1)).length):
  ndI (ls.take k++ls.drop (k+1)) (i:Nat)=ndI ls ((if i<k then i else i+1:Nat):Int):=by
 have hl:(ls.take k).length =k:=by simp;omega
 have FV:i<ls.length -1:=by simp at hi;omega
 by_cases h:i<k
 ·rw[aao h,z1V o_,qd _ _ o_,qd _ _ o_,abq]
 ·rw[aaq h,qd _ _ hi,qd _ _ o_,List.getElem_append_right o_,List.getElem_drop]
  congr 1
  omega
theorem z9c {ns ls:List Pr} (h:zL ns ls) {k:Nat} (hk:k<ls.length):zL ns (ls.take k++ls.drop (k+1)):=by
 have hm:=h.2.2.1;have Hi:(ls.take k++ls.drop (k+1)).length =ls.length -1:=by simp;omega
 refine z8N h o_ (fun i=>if i<k then i else i+1) (fun i hi=>⟨?_,X9 hk i hi⟩) (fun i j hi hj e=>?_)
 ·rw[Hi] at hi
  show(if i<k then i else i+1)<_
  split<;>omega
 ·have e':(if i<k then i else i+1)=(if j<k then j else j+1):=e
  split at e'<;>split at e'<;>omega
theorem z4S {ns:List Pr} {l:Pr} (h:zp ns l=true):qW ns l l=true:=by
 have e:∀p:Pr,qz p p=true:=fun p=>yw.2 rfl
 simp[qW,h,jI,e]
theorem z4w {ns ls:List Pr} (h:zL ns ls) {i k:Nat} (hi:i<ls.length) (hk:k<ls.length) (gr:i≠k):ndI ls (i:Nat)≠ndI ls (k:Nat):=by
 intro e;have h1:=z1p h hi hk gr;rw[e,z4S ((h.2.2.2.2.2 k hk).1)] at h1
 cases h1
theorem J5 (ls:List Pr) (k:Nat):∀m,(frD ls k m).Nodup
 |0=>by simp[frD]
 |m+1=>by
  by_cases h:zc ls m=k
  ·rw[Vd h,List.nodup_append]
   refine⟨J5 ls k m,by simp,fun a ha b hb=>?_⟩
   have:=(Xr ls k m a ha).1;simp at hb
   omega
  ·rw[z1Z h];exact J5 ls k m
theorem z9d {ns ls:List Pr} (h:zL ns ls) {d e:Nat} (hd:d<2*ls.length) (he:e<2*ls.length) (h1:zc ls d=zc ls e) (h2:dTo ls d=dTo ls e):d=e:=by
 have h6:=h.2.2.2.2.2;have l1:=q9.1 (h6 (d/2) o_).1;have l2:=q9.1 (h6 (e/2) o_).1
 by_cases hq:d/2=e/2
 ·unfold zc at h1
  rw[hq] at h1 l1
  by_cases p1:d%2=1<;>by_cases p2:e%2=1
  ·omega
  ·rw[aao p1,aaq p2] at h1;omega
  ·rw[aaq p1,aao p2] at h1;omega
  ·omega
 ·exfalso
  refine z4w h o_ o_ hq ?_
  unfold zc at h1;unfold dTo at h2;refine Prod.ext_iff.2 ?_
  by_cases p1:d%2=1<;>by_cases p2:e%2=1
  ·rw[aao p1,aao p2] at h1 h2;exact⟨h2,h1⟩
  ·rw[aao p1,aaq p2] at h1 h2;exfalso;omega
  ·rw[aaq p1,aao p2] at h1 h2;exfalso;omega
  ·rw[aaq p1,aaq p2] at h1 h2;exact⟨h1,h2⟩
theorem z91 {ns ls:List Pr} (h:zL ns ls) (k:Nat):(frD ls k (2*ls.length)).length <=12:=by
 apply abl
 intro hc;have Hu:∀j:Nat,j<ls.length->zp ns (ndI ls j)=true:=fun j hj=>(h.2.2.2.2.2 j hj).1
 have hn:=h.2.1;generalize hG:frD ls k (2*ls.length)=G at*
 have hm:∀i,i<G.length->G.getD i 0<2*ls.length/\zc ls (G.getD i 0)=k:=by
  intro i hi;have:=Xr ls k (2*ls.length) (G.getD i 0) (by rw[hG,List.getD,aac hi];exact abh hi);exact this
 obtain⟨i,j,h1,h2,h3⟩:=pigeon 12 (fun i=>(dTo ls (G.getD i 0)).toNat) (fun i hi=>by
  obtain⟨t,ht,Bm⟩:=jK Hu (hm i o_).1
  show(dTo ls (G.getD i 0)).toNat <12
  rw[ht];omega)
 have mi:=hm i o_;have mj:=hm j o_;obtain⟨t,ht,_⟩:=jK Hu mi.1;obtain⟨u,hu,_⟩:=jK Hu mj.1;have h3':(dTo ls (G.getD i 0)).toNat =(dTo ls (G.getD j 0)).toNat :=h3;have hto:dTo ls (G.getD i 0)=dTo ls (G.getD j 0):=by rw[ht,hu] at h3'⊢;omega
 have he:=z9d h mi.1 mj.1 (by rw[mi.2,mj.2]) hto;have hnd:=J5 ls k (2*ls.length);rw[hG] at hnd;have li:i<G.length:=o_
 have lj:j<G.length:=o_
 rw[List.getD,List.getD,aac li,aac lj] at he;have:=(List.getElem_inj hnd).1 (by simpa using he);omega
end Go.Proofs.YtnjcpljhmhdhkaaGreat
