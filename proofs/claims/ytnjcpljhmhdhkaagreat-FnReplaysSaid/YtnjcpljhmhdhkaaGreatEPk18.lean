/- part 18 -/
import Derived.Test.YtnjcpljhmhdhkaaGreatEPk17
set_option linter.unusedSimpArgs false
set_option linter.unusedVariables false
namespace Go.Proofs.YtnjcpljhmhdhkaaGreat
theorem ZE (g:List Int) (f:List Nat) (k d:Nat) (hd:d<g.length):∀j,j<=f.length->(qg g f k j).getD d 0=if d∈f.take j then(k:Int) else g.getD d 0
 |0,_=>by simp[qg]
 |j+1,h=>by
  have ih:=ZE g f k d hd j o_;have hl:=yQ g f k j;have hf:f.getD j 0=f[j]:=by simp[List.getD,show j<f.length by omega]
  show((qg g f k j).set (f.getD j 0) k).getD d 0=_
  rw[hf,aax (show j<f.length by omega)]
  by_cases he:f[j]=d
  ·rw[he]
   have:d<(qg g f k j).length :=o_
   simp[List.getD,aa0,this]
  ·have h1:((qg g f k j).set f[j] (k:Int)).getD d 0=(qg g f k j).getD d 0:=by
    simp[List.getD,aa0,he]
   rw[h1,ih]
   have h2:(d∈f.take j++[f[j]])↔d∈f.take j:=by
    rw[aaI,aa9];exact⟨fun h=>h.resolve_right (fun hc=>he hc.symm),.inl⟩
   by_cases h3:d∈f.take j
   ·rw[aao h3,aao (h2.2 h3)]
   ·rw[aaq h3,aaq (fun hc=>h3 (h2.1 hc))]
theorem Zt {F:List (List Nat)} (hnd:F.flatten.Nodup) {z:List Int} {d:Nat} (hd:d<z.length) (hm:d∈F.flatten):∀k,k<=F.length->(qN F z k).getD d 0=if qz F d<k then(qz F d:Int) else z.getD d 0
 |0,_=>by simp[qN]
 |k+1,h=>by
  have ih:=Zt hnd hd hm k o_;have hl:=yS F z k;obtain⟨s1,s2⟩:=yg hm
  show(qg (qN F z k) (F.getD k []) k (F.getD k []).length).getD d 0=_
  rw[ZE _ _ _ _ o_ _ (aaa _),aaA,ih]
  by_cases he:qz F d=k
  ·rw[aao (by rw[<-he];exact s2),aao o_,he]
  ·have hn:¬d∈F.getD k []:=fun hc=>he (yr hnd s1 o_ s2 hc)
   rw[aaq hn]
   by_cases h1:qz F d<k
   ·rw[aao h1,aao o_]
   ·rw[aaq h1,aaq o_]
theorem zW {ns ls:List Pr} (hw:ze ns ls=true):z9 ns ls=zg ns ls:=by unfold z9;rw[hw];rfl
theorem yp {ns ls:List Pr} (hw:ze ns ls=true) {d:Nat} (hd:d<2*ls.length):(zN ns ls).getD d 0=(fcD ns ls d:Int):=by
 obtain⟨h,_⟩:=zM hw;have Ho:=z41 h;obtain⟨f1,f2,f3⟩:=qV Ho (2*ls.length) (aaa _);unfold zN;rw[zW hw,Zt (F:=zg ns ls) f2 (by simp;exact hd) (f1 d hd) _ (aaa _),aao (show qz (zg ns ls) d<(zg ns ls).length from z2s h hd)];rfl
noncomputable def adB (ns ls:List Pr) (f g:Nat):Bool:= @decide (adjF ns ls f g) (Classical.propDecidable _)
theorem vR {ns ls:List Pr} {f g:Nat}:adB ns ls f g=true↔adjF ns ls f g:=by unfold adB;simp
theorem z1m (ns ls:List Pr) (f g:Nat):adB ns ls f g=adB ns ls g f:=by
 rw[aaZ,vR,vR];exact⟨kq,kq⟩
theorem z61 {ns ls:List Pr} (hw:ze ns ls=true) {f g:Nat}:adjF ns ls f g↔f≠g/\∃k,k<ls.length/\(((zN ns ls).getD (2*k) 0=(f:Int)/\(zN ns ls).getD (2*k+1) 0=(g:Int))∨((zN ns ls).getD (2*k) 0=(g:Int)/\(zN ns ls).getD (2*k+1) 0=(f:Int))):=by
 constructor
 ·rintro⟨d,hd,h1,h2,h3⟩
  refine⟨h3,d/2,by omega,?_⟩
  rw[yp hw o_,yp hw o_]
  rcases Xi d with ⟨z1,z2⟩|⟨z1,z2⟩
  ·left
   have e1:fcD ns ls (2*(d/2))=f:=(congrArg (fcD ns ls) z1).symm.trans h1;have e2:fcD ns ls (2*(d/2)+1)=g:=(congrArg (fcD ns ls) z2).symm.trans h2;rw[e1,e2];exact⟨rfl,rfl⟩
  ·right
   have e1:fcD ns ls (2*(d/2)+1)=f:=(congrArg (fcD ns ls) z1).symm.trans h1;have e2:fcD ns ls (2*(d/2))=g:=(congrArg (fcD ns ls) z2).symm.trans h2;rw[e1,e2];exact⟨rfl,rfl⟩
 ·rintro⟨h3,k,hk,h⟩
  rw[yp hw o_,yp hw o_] at h;have t0:twin (2*k)=2*k+1:=by unfold twin;rw[aao o_]
  have t1:twin (2*k+1)=2*k:=by unfold twin;rw[aaq o_];omega
  rcases h with ⟨a,b⟩|⟨a,b⟩
  ·exact⟨2*k,by omega,by omega,by rw[t0];omega,h3⟩
  ·exact⟨2*k+1,by omega,by omega,by rw[t1];omega,h3⟩
noncomputable def jZ (ns ls:List Pr) (n:Int):Option (List Int):=if ze ns ls&&inB n 1 6 then srch (adB ns ls) (List.replicate (zg ns ls).length (-1)) n.toNat (zg ns ls).length [] else none
theorem z0v {ns ls:List Pr} {n:Int} {L:List Int} (h:jZ ns ls n=some L):qf ns ls L=true:=by
 unfold jZ at h
 split at h
 ·rename_i hc
  rw[aaG] at hc;obtain⟨hw,hn⟩:=hc;rw[zf] at hn;obtain⟨W,_⟩:=zM hw;obtain⟨e1,_,e3,e4⟩:=Xy _ [] L h (fun j hj=>by simp at hj) (fun j hj=>by simp at hj);have Hj:L.length=(zg ns ls).length :=by simpa using e1
  have NM:qk ns ls L=true:=by
   unfold qk;rw[hw,zW hw,Hj];simp only[aaR,decide_true]
   rw[jL];intro j hj;have:=e3 j hj;rw[zf];omega
  have Hy:∀m k,k+m<=ls.length->je ns ls L m k= -1:=by
   intro m
   induction m with
   |zero=>intro k _;rfl
   |succ m ih=>
    intro k hk;unfold je
    have G6:¬z9V ns ls L k=true:=by
     intro hc;unfold z9V at hc;rw[aaG,aa4,aa4,yp hw o_,yp hw o_,aa5,aa5] at hc;obtain⟨c1,c2⟩:=hc;have l0:=z2s W (show 2*k<2*ls.length by omega);have l1:=z2s W (show 2*k+1<2*ls.length by omega);have t0:twin (2*k)=2*k+1:=by unfold twin;rw[aao o_]
     have ha:adjF ns ls (fcD ns ls (2*k)) (fcD ns ls (2*k+1)):=⟨2*k,by omega,rfl,by rw[t0],fun hc=>c1 (by rw[hc])⟩
     rcases Nat.lt_trichotomy (fcD ns ls (2*k)) (fcD ns ls (2*k+1)) with g|g|g
     ·exact e4 _ _ g o_ (vR.2 ha) c2
     ·exact c1 (by rw[g])
     ·exact e4 _ _ g o_ (vR.2 (kq ha)) c2.symm
    rw[aaq G6];exact ih (k+1) o_
  unfold qf;rw[NM];simp only[aaR,aa4]
  unfold jE;rw[aao NM,Hy _ 0 o_];omega
 ·cases h
theorem Zs {ns ls:List Pr} {cs:List Int}:∀m k,je ns ls cs m k<0->∀j,k<=j->j<k+m->z9V ns ls cs j=false
 |0,k,_,j,h1,h2=>absurd h2 o_
 |m+1,k,h,j,h1,h2=>by
  unfold je at h
  split at h
  ·omega
  ·rename_i hc
   by_cases e:j=k
   ·subst e;simpa using hc
   ·exact Zs m (k+1) h j o_ o_
theorem VF {ns ls:List Pr} {cs:List Int}:∀m k,(∀j,k<=j->j<k+m->z9V ns ls cs j=false)->je ns ls cs m k= -1
 |0,k,_=>rfl
 |m+1,k,h=>by
  unfold je;rw[aaq (by rw[h k (aaa _) o_];simp)];exact VF m (k+1) (fun j h1 h2=>h j o_ o_)
theorem kH {ns ls:List Pr} {L:List Int}:qf ns ls L=true↔ze ns ls=true/\L.length=(zg ns ls).length /\yT L 0 5=true/\∀f g,adjF ns ls f g->L.getD f 0≠L.getD g 0:=by
 unfold qf;rw[aaG,aa4]
 have Hy:∀k,ze ns ls=true->k<ls.length->(z9V ns ls L k=true↔fcD ns ls (2*k)≠fcD ns ls (2*k+1)/\L.getD (fcD ns ls (2*k)) 0=L.getD (fcD ns ls (2*k+1)) 0):=by
  intro k hw hk;unfold z9V;rw[aaG,aa4,aa4,yp hw o_,yp hw o_,aa5,aa5]
  constructor
  ·rintro⟨a,b⟩;exact⟨fun e=>a (by rw[e]),b⟩
  ·rintro⟨a,b⟩;exact⟨fun e=>a o_,b⟩
 constructor
 ·rintro⟨h1,h2⟩
  unfold jE at h2;rw[aao h1] at h2;unfold qk at h1;rw[aaG,aaG,aa4] at h1;obtain⟨hw,h3,h4⟩:=h1;refine⟨hw,by rw[h3,zW hw],h4,?_⟩
  rintro f g ⟨d,hd,e1,e2,gd⟩ he;have hn:=Zs _ _ h2 (d/2) o_ o_;have hc:=Hy (d/2) hw o_;rw[hn] at hc;have G6:¬(fcD ns ls (2*(d/2))≠fcD ns ls (2*(d/2)+1)/\L.getD (fcD ns ls (2*(d/2))) 0=L.getD (fcD ns ls (2*(d/2)+1)) 0):=fun hh=>by have:=hc.2 hh;cases this
  apply G6
  rcases Xi d with ⟨z1,z2⟩|⟨z1,z2⟩
  ·have w1:fcD ns ls (2*(d/2))=f:=(congrArg (fcD ns ls) z1).symm.trans e1
   have w2:fcD ns ls (2*(d/2)+1)=g:=(congrArg (fcD ns ls) z2).symm.trans e2;rw[w1,w2];exact⟨gd,he⟩
  ·have w1:fcD ns ls (2*(d/2)+1)=f:=(congrArg (fcD ns ls) z1).symm.trans e1
   have w2:fcD ns ls (2*(d/2))=g:=(congrArg (fcD ns ls) z2).symm.trans e2;rw[w1,w2];exact⟨fun e=>gd e.symm,he.symm⟩
 ·rintro⟨hw,h3,h4,h5⟩
  have NM:qk ns ls L=true:=by
   unfold qk;rw[hw,zW hw,h3,h4];simp
  refine⟨NM,?_⟩
  unfold jE;rw[aao NM,VF _ _ (fun j h1 h2=>?_)]
  ·omega
  ·cases hq:z9V ns ls L j
   ·rfl
   ·obtain⟨a,b⟩:=(Hy j hw o_).1 hq
    have t0:twin (2*j)=2*j+1:=by unfold twin;rw[aao o_]
    exact absurd b (h5 _ _ ⟨2*j,by omega,rfl,by rw[t0],a⟩)
def swK (cs:List Int) (C:List Nat) (y x:Int):Nat->List Int
 |0=>cs
 |k+1=>(swK cs C y x k).set (C.getD k 0) (if cs.getD (C.getD k 0) 0=x then y else x)
theorem J3 (cs:List Int) (C:List Nat) (y x:Int):∀k,(swK cs C y x k).length =cs.length
 |0=>rfl
 |k+1=>by simp[swK,J3 cs C y x k]
theorem z3I {cs:List Int} {C:List Nat} {y x:Int} {g:Nat} (hg:g<cs.length):∀k,k<=C.length->(swK cs C y x k).getD g 0=if g∈C.take k then(if cs.getD g 0=x then y else x) else cs.getD g 0
 |0,_=>by simp[swK]
 |k+1,h=>by
  have ih:=z3I (cs:=cs) (C:=C) (y:=y) (x:=x) hg k o_;have hl:=J3 cs C y x k;have hc:C.getD k 0=C[k]:=by simp[List.getD,show k<C.length by omega]
  show((swK cs C y x k).set (C.getD k 0) _).getD g 0=_
  rw[hc,aax (show k<C.length by omega)]
  by_cases e:C[k]=g
  ·have h1:g∈C.take k++[C[k]]:=by simp[e]
   rw[aao h1,e];simp[List.getD,aa0,hl,hg]
  ·have h2:(g∈C.take k++[C[k]])↔g∈C.take k:=by
    rw[aaI,aa9];exact⟨fun h=>h.resolve_right (fun q=>e q.symm),.inl⟩
   have h3:((swK cs C y x k).set C[k] (if cs.getD C[k] 0=x then y else x)).getD g 0=(swK cs C y x k).getD g 0:=by simp[List.getD,aa0,e]
   rw[h3,ih]
   by_cases h4:g∈C.take k
   ·rw[aao h4,aao (h2.2 h4)]
   ·rw[aaq h4,aaq (fun q=>h4 (h2.1 q))]
def okX (cs:List Int) (f:Nat) (x:Int) (i:Nat):Bool:=decide (cs.getD i 0=cs.getD f 0)||decide (cs.getD i 0=x)
noncomputable def qI (ns ls:List Pr) (cs:List Int) (f:Nat) (x:Int):List Nat:=Zo (adB ns ls) (okX cs f x) cs.length f
noncomputable def yC (ns ls:List Pr) (cs:List Int) (f x:Int):Bool:=qf ns ls cs&&(inB f 0 ((cs.length:Int) -1)&&inB x 0 5)
noncomputable def Jz (ns ls:List Pr) (cs:List Int) (f x:Int):List Nat:=if yC ns ls cs f x then qI ns ls cs f.toNat x else []
noncomputable def vU (ns ls:List Pr) (cs:List Int) (f x:Int):Bool:=yC ns ls cs f x&& !decide (cs.getD f.toNat 0=x)
noncomputable def vQ (ns ls:List Pr) (cs:List Int) (f x:Int):List Int:=if vU ns ls cs f x then swK cs (qI ns ls cs f.toNat x) (cs.getD f.toNat 0) x (qI ns ls cs f.toNat x).length else cs
theorem yf {ns ls:List Pr} {cs:List Int} {f:Nat} {x:Int} {i:Nat}:i∈qI ns ls cs f x↔i<cs.length/\k6 (adB ns ls) (okX cs f x) cs.length f i:=z3o
theorem z5u {ns ls:List Pr} {cs:List Int} {f:Nat} {x:Int} {i:Nat} (h:i∈qI ns ls cs f x):i<cs.length:=(yf.1 h).1
theorem ZS {ns ls:List Pr} {cs:List Int} {f:Nat} {x:Int} (h:f<cs.length):f∈qI ns ls cs f x:=yf.2 ⟨h,JZ _ _ _ _⟩
theorem XS {ns ls:List Pr} {cs:List Int} {f:Nat} {x:Int} {i:Nat} (h:i∈qI ns ls cs f x):okX cs f x i=true:=by
 refine(yf.1 h).2 (fun i=>okX cs f x i=true) ?_ (fun g i _ _ _ _ ho=>ho)
 simp[okX]
theorem z3g (ns ls:List Pr) (cs:List Int) (f:Nat) (x:Int):(qI ns ls cs f x).length <=cs.length:=by
 unfold qI Zo;have:=List.length_filter_le (fun i=> @decide (k6 (adB ns ls) (okX cs f x) cs.length f i) (Classical.propDecidable _)) (List.range cs.length)
 simpa using this
theorem Xt (ns ls:List Pr) (cs:List Int) (f x:Int):(vQ ns ls cs f x).length =cs.length:=by
 unfold vQ;split
 ·exact J3 _ _ _ _ _
 ·rfl
theorem z1D {ns ls:List Pr} {cs:List Int} {f x:Int} (h:vU ns ls cs f x=true):qf ns ls (vQ ns ls cs f x)=true:=by
 have hs:=h;unfold vU yC at h;rw[aaG,aaG,aaG,zf,zf] at h;obtain⟨⟨hp,hf,hx⟩,gd⟩:=h;obtain⟨F,rfl⟩:∃F:Nat,f=F:=⟨f.toNat,by omega⟩;have hF:F<cs.length:=o_
 rw[aa5] at gd;obtain⟨hw,hl,Gi,MS⟩:=kH.1 hp;obtain⟨W,_⟩:=zM hw;have hne':cs.getD F 0≠x:=by simpa using gd
 have e:vQ ns ls cs F x=swK cs (qI ns ls cs F x) (cs.getD F 0) x (qI ns ls cs F x).length :=by
  unfold vQ;rw[aao hs,aa5]
 have CD:∀g,g<cs.length->(vQ ns ls cs F x).getD g 0=if g∈qI ns ls cs F x then(if cs.getD g 0=x then cs.getD F 0 else x) else cs.getD g 0:=by
  intro g hg;rw[e,z3I hg _ (aaa _),aaA]
 refine kH.2 ⟨hw,by rw[Xt];exact hl,?_,?_⟩
 ·rw[jL]
  intro j hj;rw[Xt] at hj;have Bj:=jL.1 Gi j hj;rw[CD j hj]
  split
  ·split
   ·exact jL.1 Gi F hF
   ·exact zf.2 hx
  ·exact Bj
 ·intro a b nD
  have ha:a<cs.length:=by rw[hl];exact z4l W (kq nD)
  have hb:b<cs.length:=by rw[hl];exact z4l W nD
  have hc:=MS a b nD;have both:a∈qI ns ls cs F x->okX cs F x b=true->b∈qI ns ls cs F x:=fun h1 h2=>yf.2 ⟨hb,kL _ _ _ _ a b ha hb (yf.1 h1).2 (vR.2 nD) h2⟩
  have both':b∈qI ns ls cs F x->okX cs F x a=true->a∈qI ns ls cs F x:=fun h1 h2=>yf.2 ⟨ha,kL _ _ _ _ b a hb ha (yf.1 h1).2 (vR.2 (kq nD)) h2⟩
  rw[CD a ha,CD b hb]
  by_cases h1:a∈qI ns ls cs F x
  ·have k1:=XS h1
   by_cases h2:b∈qI ns ls cs F x
   ·have k2:=XS h2
    rw[aao h1,aao h2];unfold okX at k1 k2;simp only[aaH,aa4] at k1 k2
    split<;>split<;>omega
   ·have k2:okX cs F x b≠true:=fun q=>h2 (both h1 q)
    rw[aao h1,aaq h2];unfold okX at k2;simp only[aaH,aa4,not_or,ne_eq] at k2
    split
    ·exact fun q=>k2.1 q.symm
    ·exact fun q=>k2.2 q.symm
  ·by_cases h2:b∈qI ns ls cs F x
   ·have k2:okX cs F x a≠true:=fun q=>h1 (both' h2 q)
    rw[aaq h1,aao h2];unfold okX at k2;simp only[aaH,aa4,not_or,ne_eq] at k2
    split
    ·exact k2.1
    ·exact k2.2
   ·rw[aaq h1,aaq h2];exact hc
open Go.RowKit
theorem V6 {P:Program} {w:World} {t ty e:TypeId} {i:TypeInfo} {base g:Nat} {z:Value} {sz by_:Nat} (ht:P.underlying t=some (.slice e)) (hi:P.info? e=some i) (hz:i.zero=some z) (Hs:i.size=sz) (GN:i.bytes=by_) (NL:z.cells.size=sz) (gx:0<sz)
  {u:Value} {m:Nat} {l:List Value} (hown:w.ownsRow base e sz (.slice (some ⟨g,0,none⟩) 0 0) 0 []) (hr:RS w sz u m l) (Fq:∀x∈l,x.oneCell'=true) (Hj:m<=1048576) (gj:by_<=100) (Hu:base<=w.heap.size):
  ∃A c w',(Builtin.append_ #[t,t] ty #[.slice (some ⟨g,0,none⟩) 0 0,u]).run P w= .ok (.slice A m c) w'/\w'.ownsRow base e sz (.slice A m c) m l/\Below w.heap.size w w'/\
   (∀k,(Value.slice A m c).ownBlock =some k->k=g∨k=w.heap.size):=by
 obtain⟨A,c,w',GC,ho,hg,ha⟩:=k7 (ty:=ty) ht hi hz Hs GN NL gx hown hr Fq o_ gj Hu;simp only[aaF,List.nil_append] at GC ho ha
 refine⟨A,c,w',GC,ho,?_,?_⟩
 ·have key:w'.heap[g]? =w.heap[g]? :=by
   rcases hown.2 with ⟨h,_⟩|⟨g',cap,cur,h,_,nS,_,_,fU,_⟩
   ·cases h
   ·cases h
    subst Hs;have FN:cur= #[]:=Array.eq_empty_of_size_eq_zero (by simpa using fU);subst FN;obtain⟨mx,A0,c0,rfl,hc,hm,hcell⟩:=hr
    cases A0 with
    |none=>
     have rE:=yY (P:=P) (w:=w) (ty:=ty) ht hi (some ⟨g,0,none⟩) 0 0 c0 (aaa _)
     have Rm:m=0:=by
      rcases abv m with h|h
      ·exact h
      ·obtain⟨b,off,h1,_⟩:=hcell h
       cases h1
     subst Rm;have:=GC.symm.trans rE
     cases this
     rfl
    |some a=>
     have hn:∀(j:Nat) (x:Value),l[j]? =some x->w.cell? (a.add j)=some x:=by
      intro j x hx;have hj:=(List.getElem?_eq_some_iff.1 hx).1
      have Cv:0<m:=by
       rcases abv m with h|h
       ·subst h;omega
       ·exact h
      obtain⟨b,off,e5,_,e6⟩:=hcell Cv
      cases e5
      rw[ki];exact e6 j x hx
     by_cases Rm:m=0
     ·subst Rm
      have Md:l=[]:=abx (by simpa using mx);subst Md;have rE:=run_append_room (P:=P) w t ty e i ht hi g 0 0 #[] nS a 0 c0 [] (by simp) (by simp) (by simp) o_ (by simp);have:=GC.symm.trans rE
      cases this
      rw[setRow_heap w g #[] _ e _ nS,nS];simp
     ·have hbm:m*i.bytes<=1048576*100:=Nat.mul_le_mul Hj o_
      have rE:=run_append_grow (P:=P) w t ty e i z ht hi hz ⟨g,0,none⟩ 0 0 [] (by simp) (by simp) a m c0 l mx hn o_ o_ (growslice_fits o_ (by simp only[aaF];omega));simp only[aaF] at rE
      have:=GC.symm.trans rE
      cases this
      exact heap_alloc_old w.drew _ (Array.getElem?_eq_some_iff.1 nS).1
  have hg':w.grownBy w' (Value.slice none 0 0).ownBlock :=⟨hg.os,hg.tape,hg.output,hg.size,fun k hk _=>by
   by_cases hkg:k=g
   ·subst hkg;exact key
   ·exact hg.block k hk (by simpa[Value.ownBlock] using hkg)⟩
  exact kc hg'
 ·intro k hk
  rcases ha with h|h
  ·rw[h] at hk
   simp[Value.ownBlock] at hk
   exact .inl hk.symm
  ·rw[h] at hk
   cases hk
   exact .inr rfl
theorem qe {P:Program} {w:World} {ops:Array Oper} {o:Oper} {a:Act} {K:Act->World->Prop} {Q:Exit->Act->World->Prop} {E:Prop} (fY:o.guard=none) (s x:Operand) (t:TypeId)
  (ho:o.op= .call { callee:= .builtin .append,args:= #[s,x],argTypes:= #[t,t] })
  (base g:Nat) (e:TypeId) (i:TypeInfo) (z:Value) (sz by_:Nat) (ht:P.underlying t=some (.slice e)) (hi:P.info? e=some i) (hz:i.zero=some z) (Hs:i.size=sz) (GN:i.bytes=by_) (NL:z.cells.size=sz) (gx:0<sz)
  (u:Value) (m:Nat) (l:List Value) (hs:a.eval s= .slice (some ⟨g,0,none⟩) 0 0) (hx:a.eval x=u) (hown:w.ownsRow base e sz (.slice (some ⟨g,0,none⟩) 0 0) 0 []) (hr:RS w sz u m l) (Fq:∀x∈l,x.oneCell'=true) (Hj:m<=1048576) (gj:by_<=100) (Hu:base<=w.heap.size)
  (h:∀A c w',w'.ownsRow base e sz (.slice A m c) m l->Below w.heap.size w w'->(∀k,(Value.slice A m c).ownBlock =some k->k=g∨k=w.heap.size)->K (a.put o.dst (.slice A m c)) w'):
  if Region.wanted o (yielded ops a.tmps)=true then Oper.wp P o a w K Q else E:=by
 have hw:Region.wanted o (yielded ops a.tmps)=true:=by simp[Region.wanted,fY]
 rw[aao hw];obtain⟨A,c,w',GC,h2,h3,h4⟩:=V6 (ty:=o.type) ht hi hz Hs GN NL gx hown hr Fq Hj gj Hu;unfold Oper.wp execOp;simp only[ho,resolve,invoke,builtin,Sem.run_bind,Sem.run_pure,aaY,List.map_toArray,aaS,aaT,hs,hx,GC]
 exact h A c w' h2 h3 h4
theorem jT {w:World} {base:Nat} {e:TypeId} {sz n:Nat} {v:Value} {xs:List Value} (h:w.ownsRow base e sz v n xs):w.drew.ownsRow base e sz v n xs:=h
theorem qh {w:World} {base g:Nat} {e:TypeId} {sz:Nat} (hb:base<=w.heap.size) (hg:w.heap.size=g):(w.alloc (.cells #[] e)).ownsRow base e sz (.slice (some ⟨g,0,none⟩) 0 0) 0 []:=by
 subst hg;exact World.ownsRow_made w #[] 0 hb (by decide) (by simp)
def setN (l:List Nat) (a b:Nat):List Nat:=l.set a (l.getD a 0 ||| 2^b)
def jg (s:List Int) (F:Nat):Nat->List Nat
 |0=>List.replicate F 0
 |k+1=>if s.getD (2*k) 0=s.getD (2*k+1) 0 then jg s F k else setN (setN (jg s F k) (s.getD (2*k) 0).toNat (s.getD (2*k+1) 0).toNat) (s.getD (2*k+1) 0).toNat (s.getD (2*k) 0).toNat
def setT (l:List (List Bool)) (a b:Nat):List (List Bool):=l.set a ((l.getD a []).set b true)
def besK (s:List Int) (F:Nat):Nat->List (List Bool)
 |0=>List.replicate F (List.replicate F false)
 |k+1=>if s.getD (2*k) 0=s.getD (2*k+1) 0 then besK s F k else setT (setT (besK s F k) (s.getD (2*k) 0).toNat (s.getD (2*k+1) 0).toNat) (s.getD (2*k+1) 0).toNat (s.getD (2*k) 0).toNat
theorem Qd (s:List Int) (F k:Nat):jg s F (k+1)=if s.getD (2*k) 0=s.getD (2*k+1) 0 then jg s F k else setN (setN (jg s F k) (s.getD (2*k) 0).toNat (s.getD (2*k+1) 0).toNat) (s.getD (2*k+1) 0).toNat (s.getD (2*k) 0).toNat :=rfl
theorem Zg (s:List Int) (F k:Nat):besK s F (k+1)=if s.getD (2*k) 0=s.getD (2*k+1) 0 then besK s F k else setT (setT (besK s F k) (s.getD (2*k) 0).toNat (s.getD (2*k+1) 0).toNat) (s.getD (2*k+1) 0).toNat (s.getD (2*k) 0).toNat :=rfl
theorem z9p (l:List Nat) (a b:Nat):(setN l a b).length =l.length:=by simp[setN]
theorem Vf {l:List Nat} {a b f:Nat} (hf:f<l.length):(setN l a b).getD f 0=if f=a then l.getD a 0 ||| 2^b else l.getD f 0:=by
 by_cases h:f=a
 ·subst h;simp[setN,List.getD,aa0,hf]
 ·have h':¬a=f:=fun e=>h e.symm
  simp[setN,List.getD,aa0,h,h']
theorem z2a {l:List Nat} {a b f g:Nat} (hf:f<l.length):((setN l a b).getD f 0).testBit g=((l.getD f 0).testBit g||(decide (f=a)&&decide (b=g))):=by
 rw[Vf hf]
 by_cases h:f=a
 ·subst h;simp[aa1,aa2]
 ·simp[h]
theorem z4k {l:List Nat} {a b m:Nat} (hb:b<m) (h:∀f,f<l.length->l.getD f 0<2^m):∀f,f<(setN l a b).length ->(setN l a b).getD f 0<2^m:=by
 intro f hf;rw[z9p] at hf;rw[Vf hf]
 split
 ·rename_i e;subst e
  exact Nat.or_lt_two_pow (h _ hf) (aa3 o_ hb)
 ·exact h f hf
theorem jU (s:List Int) (F:Nat):∀k,(jg s F k).length =F
 |0=>by simp[jg]
 |k+1=>by
  rw[Qd]
  split
  ·exact jU s F k
  ·rw[z9p,z9p];exact jU s F k
theorem vF (l:List (List Bool)) (a b:Nat):(setT l a b).length =l.length:=by simp[setT]
theorem z1K {l:List (List Bool)} {a b f:Nat} (hf:f<l.length):(setT l a b).getD f []=if f=a then(l.getD a []).set b true else l.getD f []:=by
 by_cases h:f=a
 ·subst h;simp[setT,List.getD,aa0,hf]
 ·have h':¬a=f:=fun e=>h e.symm
  simp[setT,List.getD,aa0,h,h']
theorem JN {l:List (List Bool)} {a b F:Nat} (h:∀f,f<l.length->(l.getD f []).length =F):∀f,f<(setT l a b).length ->((setT l a b).getD f []).length =F:=by
 intro f hf;rw[vF] at hf;rw[z1K hf]
 split
 ·rename_i e;subst e
  simp only[aar];exact h _ hf
 ·exact h f hf
theorem z2t {l:List (List Bool)} {a b f g:Nat} (hf:f<l.length) (hg:g<(l.getD f []).length):((setT l a b).getD f []).getD g false=((l.getD f []).getD g false||(decide (f=a)&&decide (b=g))):=by
 rw[z1K hf]
 by_cases h:f=a
 ·subst h
  by_cases e:b=g
  ·subst e;simp[List.getD,aa0] at hg⊢;simp[hg]
  ·simp[List.getD,aa0,e]
 ·simp[h]
theorem y6 (s:List Int) (F:Nat):∀k,(besK s F k).length =F
 |0=>by simp[besK]
 |k+1=>by
  rw[Zg]
  split
  ·exact y6 s F k
  ·rw[vF,vF];exact y6 s F k
theorem kr (s:List Int) (F:Nat):∀k f,f<F->((besK s F k).getD f []).length =F
 |0,f,hf=>by simp[besK,List.getD,hf]
 |k+1,f,hf=>by
  have ih:∀f,f<(besK s F k).length ->((besK s F k).getD f []).length =F:=fun f hf=>kr s F k f (by rw[y6] at hf;exact hf)
  rw[Zg]
  split
  ·exact kr s F k f hf
  ·exact JN (JN ih) f (by rw[vF,vF,y6];exact hf)
def besP (s:List Int) (k f g:Nat):Prop:=∃j,j<k/\s.getD (2*j) 0≠s.getD (2*j+1) 0/\(((s.getD (2*j) 0).toNat =f/\(s.getD (2*j+1) 0).toNat =g)∨((s.getD (2*j) 0).toNat =g/\(s.getD (2*j+1) 0).toNat =f))
theorem XH {s:List Int} {k f g:Nat}:besP s (k+1) f g↔besP s k f g∨(s.getD (2*k) 0≠s.getD (2*k+1) 0/\(((s.getD (2*k) 0).toNat =f/\(s.getD (2*k+1) 0).toNat =g)∨((s.getD (2*k) 0).toNat =g/\(s.getD (2*k+1) 0).toNat =f))):=by
 constructor
 ·rintro⟨j,hj,h⟩
  by_cases e:j=k
  ·subst e;exact .inr h
  ·exact .inl ⟨j,by omega,h⟩
 ·rintro(⟨j,hj,h⟩|h)
  ·exact⟨j,by omega,h⟩
  ·exact⟨k,by omega,h⟩
theorem Xd (s:List Int) (F:Nat):∀k f g,f<F->(((jg s F k).getD f 0).testBit g=true↔besP s k f g)
 |0,f,g,hf=>by
  simp[jg,List.getD,hf,besP]
 |k+1,f,g,hf=>by
  have ih:=Xd s F k f g hf;rw[XH,<-ih];rw[Qd]
  split
  ·rename_i e
   exact⟨.inl,fun h=>h.resolve_right (fun q=>q.1 e)⟩
  ·rename_i e
   rw[z2a (by rw[z9p,jU];exact hf),z2a (by rw[jU];exact hf)];simp only[aaH,aaG,aa4]
   constructor
   ·rintro((h|⟨h1,h2⟩)|⟨h1,h2⟩)
    ·exact .inl h
    ·exact .inr ⟨e,.inl ⟨h1.symm,h2⟩⟩
    ·exact .inr ⟨e,.inr ⟨h2,h1.symm⟩⟩
   ·rintro(h|⟨_,⟨h1,h2⟩|⟨h1,h2⟩⟩)
    ·exact .inl (.inl h)
    ·exact .inl (.inr ⟨h1.symm,h2⟩)
    ·exact .inr ⟨h2.symm,h1⟩
theorem z2g (s:List Int) (F:Nat):∀k f g,f<F->g<F->(((besK s F k).getD f []).getD g false=true↔besP s k f g)
 |0,f,g,hf,hg=>by
  simp[besK,List.getD,hf,hg,besP]
 |k+1,f,g,hf,hg=>by
  have ih:=z2g s F k f g hf hg;rw[XH,<-ih];have hr:∀f,f<(besK s F k).length ->((besK s F k).getD f []).length =F:=fun f hf=>kr s F k f (by rw[y6] at hf;exact hf)
  rw[Zg]
  split
  ·rename_i e
   exact⟨.inl,fun h=>h.resolve_right (fun q=>q.1 e)⟩
  ·rename_i e
   rw[z2t (by rw[vF,y6];exact hf) (by rw[JN hr f (by rw[vF,y6];exact hf)];exact hg),z2t (by rw[y6];exact hf) (by rw[kr s F k f hf];exact hg)];simp only[aaH,aaG,aa4]
   constructor
   ·rintro((h|⟨h1,h2⟩)|⟨h1,h2⟩)
    ·exact .inl h
    ·exact .inr ⟨e,.inl ⟨h1.symm,h2⟩⟩
    ·exact .inr ⟨e,.inr ⟨h2,h1.symm⟩⟩
   ·rintro(h|⟨_,⟨h1,h2⟩|⟨h1,h2⟩⟩)
    ·exact .inl (.inl h)
    ·exact .inl (.inr ⟨h1.symm,h2⟩)
    ·exact .inr ⟨h2.symm,h1⟩
theorem VC (s:List Int) (F:Nat):∀k,(∀j,j<2*k->0<=s.getD j 0/\s.getD j 0<F)->∀f,f<F->(jg s F k).getD f 0<2^F
 |0,_,f,hf=>by simp[jg,List.getD,hf];exact Nat.two_pow_pos F
 |k+1,h,f,hf=>by
  have ih:=VC s F k (fun j hj=>h j o_);have h0:=h (2*k) o_;have h1:=h (2*k+1) o_;have ih':∀f,f<(jg s F k).length ->(jg s F k).getD f 0<2^F:=fun f hf=>ih f (by rw[jU] at hf;exact hf)
  rw[Qd]
  split
  ·exact ih f hf
  ·exact z4k o_ (z4k o_ ih') f (by rw[z9p,z9p,jU];exact hf)
noncomputable def qZ (ns ls:List Pr):List Nat:=jg (zN ns ls) (zg ns ls).length ls.length
noncomputable def besW (ns ls:List Pr):List (List Bool):=besK (zN ns ls) (zg ns ls).length ls.length
theorem Jv {ns ls:List Pr} (hw:ze ns ls=true) {j:Nat} (hj:j<2*ls.length):0<=(zN ns ls).getD j 0/\(zN ns ls).getD j 0<(zg ns ls).length :=by
 obtain⟨W,_⟩:=zM hw;have:=z2s W hj;rw[yp hw hj];omega
theorem z1i {ns ls:List Pr} (hw:ze ns ls=true) {f g:Nat}:besP (zN ns ls) ls.length f g↔adjF ns ls f g:=by
 rw[z61 hw]
 constructor
 ·rintro⟨j,hj,gd,h⟩
  have a:=Jv hw (show 2*j<2*ls.length by omega);have b:=Jv hw (show 2*j+1<2*ls.length by omega);refine⟨?_,j,hj,?_⟩
  ·rcases h with ⟨h1,h2⟩|⟨h1,h2⟩<;>omega
  ·rcases h with ⟨h1,h2⟩|⟨h1,h2⟩
   ·left;omega
   ·right;omega
 ·rintro⟨gd,j,hj,h⟩
  refine⟨j,hj,?_,?_⟩
  ·rcases h with ⟨h1,h2⟩|⟨h1,h2⟩<;>omega
  ·rcases h with ⟨h1,h2⟩|⟨h1,h2⟩
   ·left;omega
   ·right;omega
theorem z22 {ns ls:List Pr} (hw:ze ns ls=true) {f g:Nat} (hf:f<(zg ns ls).length):((qZ ns ls).getD f 0).testBit g=adB ns ls f g:=by
 rw[aaZ,vR,<-z1i hw];exact Xd _ _ _ f g hf
theorem z7U {ns ls:List Pr} (hw:ze ns ls=true) {f g:Nat} (hf:f<(zg ns ls).length) (hg:g<(zg ns ls).length):((besW ns ls).getD f []).getD g false=adB ns ls f g:=by
 rw[aaZ,vR,<-z1i hw];exact z2g _ _ _ f g hf hg
theorem z0E {ns ls:List Pr} (hw:ze ns ls=true) {f:Nat} (hf:f<(zg ns ls).length):(qZ ns ls).getD f 0<2^(zg ns ls).length :=
 VC _ _ _ (fun j hj=>Jv hw hj) f hf
def z24 (L:List Int) (b:Bool) (w:World) (e:Ending) (w':World):Prop:=∃v,e= .returned (.tuple #[v,.bool b])/\OwnI w.heap.size w' v L/\Below w.heap.size w w'
def RetN (G:List Int) (w:World) (e:Ending) (w':World):Prop:=∃v,e= .returned v/\OwnI w.heap.size w' v G/\(G.length=0->v= .slice none 0 0)/\Below w.heap.size w w'
def rowV (F:Nat) (g:Nat):Value:= .slice (some ⟨g,0,none⟩) F F
structure OwnTab (base:Nat) (w:World) (v:Value) (F:Nat) (gs:List Nat) (T:List (List Bool)):Prop where
 out:OwnE 182 (rowV F) base w v gs
 len:gs.length=T.length
 nd:gs.Nodup
 row:∀k,k<T.length->OwnE 4 Value.bool base w (rowV F (gs.getD k 0)) (T.getD k [])
section
variable {base:Nat} {w w':World} {v v':Value} {F:Nat} {gs:List Nat} {T:List (List Bool)}
theorem OwnTab.kept (h:OwnTab base w v F gs T) (hb:Below w.heap.size w w'):OwnTab base w' v F gs T:=⟨h.out.kept hb,h.len,h.nd,fun k hk=>(h.row k hk).kept hb⟩
theorem z5N:4≠182:=by decide
theorem z7S:182≠4:=by decide
theorem z3N (h:OwnTab base w v F gs T) {k:Nat} (hk:k<T.length):base<=gs.getD k 0/\gs.getD k 0<w.heap.size:=(h.row k hk).lt _ rfl
theorem z8F (h:OwnTab base w v F gs T) {j k:Nat} (hj:j<T.length) (hk:k<T.length) (gd:j≠k):gs.getD j 0≠gs.getD k 0:=by
 have hl:=h.len;rw[aa6,aa6,aac (show j<gs.length by omega),aac (show k<gs.length by omega)];intro e;have hp:=List.pairwise_iff_getElem.1 (List.nodup_iff_pairwise_ne.1 h.nd);have e':gs[j]'o_=gs[k]'o_:=e
 rcases Nat.lt_trichotomy j k with q|q|q
 ·exact hp j k o_ o_ q e'
 ·exact gd q
 ·exact hp k j o_ o_ q e'.symm
theorem OwnTab.snoc {g:Nat} {r:List Bool} (h:OwnTab base w v F gs T) (hr:OwnE 4 Value.bool base w (rowV F g) r) (hg:∀k,k<T.length->gs.getD k 0≠g) (G7:w.grownBy w' v.ownBlock)
  (ho:w'.ownsRow base 182 1 v' (T.length+1) (gs.map (rowV F)++[rowV F g])):OwnTab base w' v' F (gs++[g]) (T++[r]):=by
 have hl:=h.len;refine⟨?_,by simp[hl],?_,fun k hk=>?_⟩
 ·have e:(gs++[g]).map (rowV F)=gs.map (rowV F)++[rowV F g]:=by simp
  unfold OwnE;rw[e,aaW,aa8,hl];exact ho
 ·rw[List.nodup_append]
  refine⟨h.nd,by simp,fun a ha b hb=>?_⟩
  rw[aa9] at hb;subst hb;obtain⟨k,hk,e⟩:=aba ha;have:=hg k o_;rw[aa6,aac hk] at this;rw[<-e];exact this
 ·rw[aaW,aa8] at hk
  have kp:∀x zs,OwnE 4 Value.bool base w x zs->OwnE 4 Value.bool base w' x zs:=fun x zs hx=>OwnE.other hx h.out z5N G7
  by_cases e:k=T.length
  ·subst e
   rw[aa6,abb o_,hl,aae,aa6,abb (aaa _),aae];exact kp _ _ hr
  ·have Hf:k<T.length:=o_
   have e1:(gs++[g]).getD k 0=gs.getD k 0:=by rw[aa6,aa6,abc o_]
   have e2:(T++[r]).getD k []=T.getD k []:=by rw[aa6,aa6,abc Hf]
   rw[e1,e2];exact kp _ _ (h.row k Hf)
theorem OwnTab.set_ (h:OwnTab base w v F gs T) {a:Nat} (ha:a<T.length) (b:Nat) (x:Bool):OwnTab base (w.setCell ⟨gs.getD a 0,b,none⟩ (.bool x)) v F gs (T.set a ((T.getD a []).set b x)):=by
 have hra:=h.row a ha;have hg:w.grownBy (w.setCell ⟨gs.getD a 0,b,none⟩ (.bool x)) (some (gs.getD a 0)):=qU (qW _ _) b _;refine⟨OwnE.other h.out hra z7S hg,by simp[h.len],h.nd,fun k hk=>?_⟩
 rw[aar] at hk
 by_cases e:k=a
 ·subst e
  have e2:(T.set k ((T.getD k []).set b x)).getD k []=(T.getD k []).set b x:=by simp[aa6,aa0,hk]
  rw[e2];exact OwnE.set_ hra b x
 ·have e':¬a=k:=fun q=>e q.symm
  have e2:(T.set a ((T.getD a []).set b x)).getD k []=T.getD k []:=by simp[aa6,aa0,e']
  rw[e2];refine World.ownsRow.kept (h.row k hk) hg (.inr ?_)
  intro q;have q':gs.getD k 0=gs.getD a 0:=by injection q
  exact z8F h hk ha e q'
theorem OwnTab.cell {g n cap:Nat} (h:OwnTab base w (.slice (some ⟨g,0,none⟩) n cap) F gs T) {k:Nat} (hk:k<T.length):w.cell? ⟨g,k,none⟩=some (.slice (some ⟨gs.getD k 0,0,none⟩) F F):=
 OwnE.cell h.out 0 (by rw[h.len];exact hk)
theorem OwnTab.cell2 (h:OwnTab base w v F gs T) {k j:Nat} (hk:k<T.length) (hj:j<(T.getD k []).length):w.cell? ⟨gs.getD k 0,j,none⟩=some (.bool ((T.getD k []).getD j false)):=
 OwnE.cell (h.row k hk) false hj
theorem OwnTab.blk (h:OwnTab base w v F gs T) (hn:0<T.length):∃g c,v= .slice (some ⟨g,0,none⟩) gs.length c/\base<=g/\g<w.heap.size:=by
 rcases h.out.2 with ⟨_,h0⟩|⟨g,cap,cur,rfl,hb,_⟩
 ·have:=h.len;omega
 ·exact⟨g,cap,rfl,hb,(h.out.lt g rfl).2⟩
theorem OwnTab.apart (h:OwnTab base w v F gs T) {k g:Nat} (hk:k<T.length) (hg:v.ownBlock=some g):g≠gs.getD k 0:=by
 have hr:=h.row k hk
 rcases h.out.2 with ⟨rfl,_⟩|⟨g1,cap,cur,rfl,_,hh,_⟩
 ·cases hg
 ·rcases hr.2 with ⟨e,_⟩|⟨g2,cap2,cur2,e,_,rt,_⟩
  ·cases e
  ·injection e with e1 _ _
   injection e1 with e1
   injection e1 with e1 _
   injection hg with hg
   have hg':g1=g:=hg;intro e3;rw[<-hg'] at e3;rw[e3,e1,rt] at hh
   injection hh with hh
   injection hh with _ hh _
   exact z5N hh
theorem OwnTab.frz2 (h:OwnTab base w v F gs T) {k:Nat} (hk:k<T.length) (j:Nat):w.frozen? ⟨gs.getD k 0,j,none⟩=false:=OwnE.frz (h.row k hk) j
end
def z1r (w:World) (b off F:Nat) (adj:Nat->Nat->Bool):Prop:=b<w.heap.size/\∀i,i<F->∃bi,bi<w.heap.size/\w.cell? ⟨b,off+i,none⟩=some (.slice (some ⟨bi,0,none⟩) F F)/\∀j,j<F->w.cell? ⟨bi,j,none⟩=some (.bool (adj i j))
theorem z1r.below {w w':World} {b off F:Nat} {adj:Nat->Nat->Bool} (h:z1r w b off F adj) (hb:Below w.heap.size w w'):z1r w' b off F adj:=by
 refine⟨aaD h.1 hb.size,fun i hi=>?_⟩
 obtain⟨bi,h1,h2,h3⟩:=h.2 i hi;exact⟨bi,aaD h1 hb.size,(hb.cell (p:=⟨b,off+i,none⟩) h.1).trans h2,fun j hj=>(hb.cell (p:=⟨bi,j,none⟩) h1).trans (h3 j hj)⟩
end Go.Proofs.YtnjcpljhmhdhkaaGreat
