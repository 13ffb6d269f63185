/- part 21 -/
import Derived.Test.YtnjcpljhmhdhkaaGreatTPk19
import Derived.Test.YtnjcpljhmhdhkaaGreatTPk20
set_option linter.unusedSimpArgs false
set_option linter.unusedVariables false
set_option maxRecDepth 100000
set_option maxHeartbeats 4000000
namespace Go.Proofs.YtnjcpljhmhdhkaaGreat
theorem J2 {ns ls:List Pr} {cs:List Int}:∀m k,je ns ls cs m k<0->∀j,k<=j->j<k+m->vr ns ls cs j=false
 |0,k,_,j,h1,h2=>absurd h2 o_
 |m+1,k,h,j,h1,h2=>by
  unfold je at h
  split at h
  ·omega
  ·rename_i hc
   by_cases e:j=k
   ·subst e;simpa using hc
   ·exact J2 m (k+1) h j o_ o_
theorem V3 {ns ls:List Pr} {cs:List Int}:∀m k,(∀j,k<=j->j<k+m->vr ns ls cs j=false)->je ns ls cs m k= -1
 |0,k,_=>rfl
 |m+1,k,h=>by
  unfold je;rw[aaq (by rw[h k (aaa _) o_];simp)];exact V3 m (k+1) (fun j h1 h2=>h j o_ o_)
theorem vQ {ns ls:List Pr} {L:List Int}:q7 ns ls L=true↔zf ns ls=true/\L.length=(zg ns ls).length /\vj L 0 5=true/\∀f g,adjF ns ls f g->L.getD f 0≠L.getD g 0:=by
 unfold q7;rw[aaG,aa4]
 have Hz:∀k,zf ns ls=true->k<ls.length->(vr ns ls L k=true↔fcD ns ls (2*k)≠fcD ns ls (2*k+1)/\L.getD (fcD ns ls (2*k)) 0=L.getD (fcD ns ls (2*k+1)) 0):=by
  intro k hw hk;unfold vr;rw[aaG,aa4,aa4,yE hw o_,yE hw o_,aa5,aa5]
  constructor
  ·rintro⟨a,b⟩;exact⟨fun e=>a (by rw[e]),b⟩
  ·rintro⟨a,b⟩;exact⟨fun e=>a o_,b⟩
 constructor
 ·rintro⟨h1,h2⟩
  unfold jK at h2;rw[aao h1] at h2;unfold qm at h1;rw[aaG,aaG,aa4] at h1;obtain⟨hw,h3,h4⟩:=h1;refine⟨hw,by rw[h3,zK hw],h4,?_⟩
  rintro f g ⟨d,hd,e1,e2,Hv⟩ he;have hn:=J2 _ _ h2 (d/2) o_ o_;have hc:=Hz (d/2) hw o_;rw[hn] at hc;have fF:¬(fcD ns ls (2*(d/2))≠fcD ns ls (2*(d/2)+1)/\L.getD (fcD ns ls (2*(d/2))) 0=L.getD (fcD ns ls (2*(d/2)+1)) 0):=fun hh=>by have:=hc.2 hh;cases this
  apply fF
  rcases z0y d with ⟨z1,z2⟩|⟨z1,z2⟩
  ·have w1:fcD ns ls (2*(d/2))=f:=(congrArg (fcD ns ls) z1).symm.trans e1
   have w2:fcD ns ls (2*(d/2)+1)=g:=(congrArg (fcD ns ls) z2).symm.trans e2;rw[w1,w2];exact⟨Hv,he⟩
  ·have w1:fcD ns ls (2*(d/2)+1)=f:=(congrArg (fcD ns ls) z1).symm.trans e1
   have w2:fcD ns ls (2*(d/2))=g:=(congrArg (fcD ns ls) z2).symm.trans e2;rw[w1,w2];exact⟨fun e=>Hv e.symm,he.symm⟩
 ·rintro⟨hw,h3,h4,h5⟩
  have M8:qm ns ls L=true:=by
   unfold qm;rw[hw,zK hw,h3,h4];simp
  refine⟨M8,?_⟩
  unfold jK;rw[aao M8,V3 _ _ (fun j h1 h2=>?_)]
  ·omega
  ·cases hq:vr ns ls L j
   ·rfl
   ·obtain⟨a,b⟩:=(Hz j hw o_).1 hq
    have t0:twin (2*j)=2*j+1:=by unfold twin;rw[aao o_]
    exact absurd b (h5 _ _ ⟨2*j,by omega,rfl,by rw[t0],a⟩)
def swK (cs:List Int) (C:List Nat) (y x:Int):Nat->List Int
 |0=>cs
 |k+1=>(swK cs C y x k).set (C.getD k 0) (if cs.getD (C.getD k 0) 0=x then y else x)
theorem Za (cs:List Int) (C:List Nat) (y x:Int):∀k,(swK cs C y x k).length =cs.length
 |0=>rfl
 |k+1=>by simp[swK,Za cs C y x k]
theorem z4o {cs:List Int} {C:List Nat} {y x:Int} {g:Nat} (hg:g<cs.length):∀k,k<=C.length->(swK cs C y x k).getD g 0=if g∈C.take k then(if cs.getD g 0=x then y else x) else cs.getD g 0
 |0,_=>by simp[swK]
 |k+1,h=>by
  have ih:=z4o (cs:=cs) (C:=C) (y:=y) (x:=x) hg k o_;have hl:=Za cs C y x k;have hc:C.getD k 0=C[k]:=by simp[List.getD,show k<C.length by omega]
  show((swK cs C y x k).set (C.getD k 0) _).getD g 0=_
  rw[hc,aax (show k<C.length by omega)]
  by_cases e:C[k]=g
  ·have h1:g∈C.take k++[C[k]]:=by simp[e]
   rw[aao h1,e];simp[List.getD,aa0,hl,hg]
  ·have h2:(g∈C.take k++[C[k]])↔g∈C.take k:=by
    rw[aaI,aa9];exact⟨fun h=>h.resolve_right (fun q=>e q.symm),.inl⟩
   have h3:((swK cs C y x k).set C[k] (if cs.getD C[k] 0=x then y else x)).getD g 0=(swK cs C y x k).getD g 0:=by simp[List.getD,aa0,e]
   rw[h3,ih]
   by_cases h4:g∈C.take k
   ·rw[aao h4,aao (h2.2 h4)]
   ·rw[aaq h4,aaq (fun q=>h4 (h2.1 q))]
def okX (cs:List Int) (f:Nat) (x:Int) (i:Nat):Bool:=decide (cs.getD i 0=cs.getD f 0)||decide (cs.getD i 0=x)
noncomputable def qc (ns ls:List Pr) (cs:List Int) (f:Nat) (x:Int):List Nat:=kr (adB ns ls) (okX cs f x) cs.length f
noncomputable def yj (ns ls:List Pr) (cs:List Int) (f x:Int):Bool:=q7 ns ls cs&&(inB f 0 ((cs.length:Int) -1)&&inB x 0 5)
noncomputable def ZB (ns ls:List Pr) (cs:List Int) (f x:Int):List Nat:=if yj ns ls cs f x then qc ns ls cs f.toNat x else []
noncomputable def vx (ns ls:List Pr) (cs:List Int) (f x:Int):Bool:=yj ns ls cs f x&& !decide (cs.getD f.toNat 0=x)
noncomputable def vv (ns ls:List Pr) (cs:List Int) (f x:Int):List Int:=if vx ns ls cs f x then swK cs (qc ns ls cs f.toNat x) (cs.getD f.toNat 0) x (qc ns ls cs f.toNat x).length else cs
theorem yo {ns ls:List Pr} {cs:List Int} {f:Nat} {x:Int} {i:Nat}:i∈qc ns ls cs f x↔i<cs.length/\vM (adB ns ls) (okX cs f x) cs.length f i:=z3N
theorem z0I {ns ls:List Pr} {cs:List Int} {f:Nat} {x:Int} {i:Nat} (h:i∈qc ns ls cs f x):i<cs.length:=(yo.1 h).1
theorem xU {ns ls:List Pr} {cs:List Int} {f:Nat} {x:Int} (h:f<cs.length):f∈qc ns ls cs f x:=yo.2 ⟨h,QK _ _ _ _⟩
theorem z0f {ns ls:List Pr} {cs:List Int} {f:Nat} {x:Int} {i:Nat} (h:i∈qc ns ls cs f x):okX cs f x i=true:=by
 refine(yo.1 h).2 (fun i=>okX cs f x i=true) ?_ (fun g i _ _ _ _ ho=>ho)
 simp[okX]
theorem VB (ns ls:List Pr) (cs:List Int) (f:Nat) (x:Int):(qc ns ls cs f x).length <=cs.length:=by
 unfold qc kr;have:=List.length_filter_le (fun i=> @decide (vM (adB ns ls) (okX cs f x) cs.length f i) (Classical.propDecidable _)) (List.range cs.length)
 simpa using this
theorem XX (ns ls:List Pr) (cs:List Int) (f x:Int):(vv ns ls cs f x).length =cs.length:=by
 unfold vv;split
 ·exact Za _ _ _ _ _
 ·rfl
theorem z3h {ns ls:List Pr} {cs:List Int} {f x:Int} (h:vx ns ls cs f x=true):q7 ns ls (vv ns ls cs f x)=true:=by
 have hs:=h;unfold vx yj at h;rw[aaG,aaG,aaG,zc,zc] at h;obtain⟨⟨hp,hf,hx⟩,Hv⟩:=h;obtain⟨F,rfl⟩:∃F:Nat,f=F:=⟨f.toNat,by omega⟩;have hF:F<cs.length:=o_
 rw[aa5] at Hv;obtain⟨hw,hl,Gg,Nl⟩:=vQ.1 hp;obtain⟨W,_⟩:=zL hw;have uM:cs.getD F 0≠x:=by simpa using Hv
 have e:vv ns ls cs F x=swK cs (qc ns ls cs F x) (cs.getD F 0) x (qc ns ls cs F x).length :=by
  unfold vv;rw[aao hs,aa5]
 have bP:∀g,g<cs.length->(vv ns ls cs F x).getD g 0=if g∈qc ns ls cs F x then(if cs.getD g 0=x then cs.getD F 0 else x) else cs.getD g 0:=by
  intro g hg;rw[e,z4o hg _ (aaa _),aaA]
 refine vQ.2 ⟨hw,by rw[XX];exact hl,?_,?_⟩
 ·rw[jW]
  intro j hj;rw[XX] at hj;have Fb:=jW.1 Gg j hj;rw[bP j hj]
  split
  ·split
   ·exact jW.1 Gg F hF
   ·exact zc.2 hx
  ·exact Fb
 ·intro a b ml
  have ha:a<cs.length:=by rw[hl];exact z4r W (kD ml)
  have hb:b<cs.length:=by rw[hl];exact z4r W ml
  have hc:=Nl a b ml;have both:a∈qc ns ls cs F x->okX cs F x b=true->b∈qc ns ls cs F x:=fun h1 h2=>yo.2 ⟨hb,vz _ _ _ _ a b ha hb (yo.1 h1).2 (k9.2 ml) h2⟩
  have both':b∈qc ns ls cs F x->okX cs F x a=true->a∈qc ns ls cs F x:=fun h1 h2=>yo.2 ⟨ha,vz _ _ _ _ b a hb ha (yo.1 h1).2 (k9.2 (kD ml)) h2⟩
  rw[bP a ha,bP b hb]
  by_cases h1:a∈qc ns ls cs F x
  ·have k1:=z0f h1
   by_cases h2:b∈qc ns ls cs F x
   ·have k2:=z0f h2
    rw[aao h1,aao h2];unfold okX at k1 k2;simp only[aaH,aa4] at k1 k2
    split<;>split<;>omega
   ·have k2:okX cs F x b≠true:=fun q=>h2 (both h1 q)
    rw[aao h1,aaq h2];unfold okX at k2;simp only[aaH,aa4,not_or,ne_eq] at k2
    split
    ·exact fun q=>k2.1 q.symm
    ·exact fun q=>k2.2 q.symm
  ·by_cases h2:b∈qc ns ls cs F x
   ·have k2:okX cs F x a≠true:=fun q=>h1 (both' h2 q)
    rw[aaq h1,aao h2];unfold okX at k2;simp only[aaH,aa4,not_or,ne_eq] at k2
    split
    ·exact k2.1
    ·exact k2.2
   ·rw[aaq h1,aaq h2];exact hc
open Go.RowKit
theorem OwnSt.setFar {base:Nat} {w:World} {a b c d e f g:Value} {S:St} {fs:List SF} (h:OwnSt base w a b c d e f g S fs) {p:Addr} (hp:¬vp a b c d e f g fs p.block) (u:Value):OwnSt base (w.setCell p u) a b c d e f g S fs:=
 h.turned (T:=fun k=>k=p.block) (Turns.ofGrown (jq w p u) (fun k hk=>by cases hk;rfl)) (fun k hk e=>hp (e▸hk))
structure OutSS (w:World) (v0 v1 v2 v3 v4 v5 v6:Value) (m:Int) (Z:Nat) (a b c d e f g:Value) (S:St) (fs:List SF) (wr:World):Prop where
 own:OwnSt (w.heap.size+1+1) wr a b c d e f g S fs
 X:Blk wr w.heap.size 34 #[v0,v1,v2,v3,v4,v5,v6,.int .i64 m]
 R:Blk wr (w.heap.size+1) 34 z8_
 Z_:Blk wr Z 34 #[a,b,c,d,e,f,g,.int .i64 S.fund]
 lt:w.heap.size+1<Z
 far:¬vp a b c d e f g fs Z
 blw:Below w.heap.size w wr
section
variable {w wr wr':World} {v0 v1 v2 v3 v4 v5 v6 a b c d e f g:Value} {m:Int} {Z:Nat} {S:St} {fs:List SF}
theorem OutSS.below (h:OutSS w v0 v1 v2 v3 v4 v5 v6 m Z a b c d e f g S fs wr) (hb:Below wr.heap.size wr wr'):OutSS w v0 v1 v2 v3 v4 v5 v6 m Z a b c d e f g S fs wr':=
 ⟨h.own.kept hb,h.X.below hb h.X.lt,h.R.below hb h.R.lt,h.Z_.below hb h.Z_.lt,h.lt,h.far,h.blw.trans (hb.mono h.blw.size)⟩
theorem OutSS.start {base:Nat} (ho:OwnSt base wr a b c d e f g S fs) (Hs:w.heap.size+1+1<=base) (hX:Blk wr w.heap.size 34 #[v0,v1,v2,v3,v4,v5,v6,.int .i64 m]) (hR:Blk wr (w.heap.size+1) 34 z8_) (hb:Below w.heap.size w wr):
  OutSS w v0 v1 v2 v3 v4 v5 v6 m wr.heap.size a b c d e f g S fs (wr.alloc (.cells #[a,b,c,d,e,f,g,.int .i64 S.fund] 34)):=
 ⟨(ho.mono Hs).alloc _,hX.alloc _,hR.alloc _,Blk.newAt rfl,hR.lt,fun hk=>by have:=(ho.lt _ hk).2;omega,hb.alloc hb.size _⟩
theorem OutSS.fin (h:OutSS w v0 v1 v2 v3 v4 v5 v6 m Z a b c d e f g S fs wr) (u0 u1 u2 u3 u4 u5 u6 u7:Value):
  OwnSt w.heap.size ((((((((wr.setCell ⟨w.heap.size+1,0,none⟩ u0).setCell ⟨w.heap.size+1,1,none⟩ u1).setCell ⟨w.heap.size+1,2,none⟩ u2).setCell ⟨w.heap.size+1,3,none⟩ u3).setCell ⟨w.heap.size+1,4,none⟩ u4).setCell ⟨w.heap.size+1,5,none⟩ u5).setCell ⟨w.heap.size+1,6,none⟩ u6).setCell ⟨w.heap.size+1,7,none⟩ u7) a b c d e f g S fs/\
  Below w.heap.size w ((((((((wr.setCell ⟨w.heap.size+1,0,none⟩ u0).setCell ⟨w.heap.size+1,1,none⟩ u1).setCell ⟨w.heap.size+1,2,none⟩ u2).setCell ⟨w.heap.size+1,3,none⟩ u3).setCell ⟨w.heap.size+1,4,none⟩ u4).setCell ⟨w.heap.size+1,5,none⟩ u5).setCell ⟨w.heap.size+1,6,none⟩ u6).setCell ⟨w.heap.size+1,7,none⟩ u7):=by
 have hR:¬vp a b c d e f g fs (w.heap.size+1):=fun hk=>by have:=(h.own.lt _ hk).1;omega
 have step:∀(W:World) (j:Nat) (u:Value),OwnSt w.heap.size W a b c d e f g S fs->OwnSt w.heap.size (W.setCell ⟨w.heap.size+1,j,none⟩ u) a b c d e f g S fs:=fun W j u hW=>hW.setFar (p:=⟨w.heap.size+1,j,none⟩) hR u
 have hs:w.heap.size<=w.heap.size+1:=Nat.le_succ _
 exact⟨step _ _ _ (step _ _ _ (step _ _ _ (step _ _ _ (step _ _ _ (step _ _ _ (step _ _ _ (step _ _ _ (h.own.mono o_)))))))),
  (((((((h.blw.setCell (p:=⟨w.heap.size+1,0,none⟩) hs u0).setCell (p:=⟨w.heap.size+1,1,none⟩) hs u1).setCell (p:=⟨w.heap.size+1,2,none⟩) hs u2).setCell (p:=⟨w.heap.size+1,3,none⟩) hs u3).setCell (p:=⟨w.heap.size+1,4,none⟩) hs u4).setCell (p:=⟨w.heap.size+1,5,none⟩) hs u5).setCell (p:=⟨w.heap.size+1,6,none⟩) hs u6).setCell (p:=⟨w.heap.size+1,7,none⟩) hs u7⟩
end
theorem z1s {base:Nat} {w wr:World} {a b c d e f g:Value} {S:St} {fs:List SF} (h:OwnSt base wr a b c d e f g S fs) (Hs:w.heap.size+1+1<=base) (hb:Below w.heap.size w wr) (u0 u1 u2 u3 u4 u5 u6 u7:Value):
  OwnSt w.heap.size ((((((((wr.setCell ⟨w.heap.size+1,0,none⟩ u0).setCell ⟨w.heap.size+1,1,none⟩ u1).setCell ⟨w.heap.size+1,2,none⟩ u2).setCell ⟨w.heap.size+1,3,none⟩ u3).setCell ⟨w.heap.size+1,4,none⟩ u4).setCell ⟨w.heap.size+1,5,none⟩ u5).setCell ⟨w.heap.size+1,6,none⟩ u6).setCell ⟨w.heap.size+1,7,none⟩ u7) a b c d e f g S fs/\
  Below w.heap.size w ((((((((wr.setCell ⟨w.heap.size+1,0,none⟩ u0).setCell ⟨w.heap.size+1,1,none⟩ u1).setCell ⟨w.heap.size+1,2,none⟩ u2).setCell ⟨w.heap.size+1,3,none⟩ u3).setCell ⟨w.heap.size+1,4,none⟩ u4).setCell ⟨w.heap.size+1,5,none⟩ u5).setCell ⟨w.heap.size+1,6,none⟩ u6).setCell ⟨w.heap.size+1,7,none⟩ u7):=by
 have hR:¬vp a b c d e f g fs (w.heap.size+1):=fun hk=>by have:=(h.lt _ hk).1;omega
 have step:∀(W:World) (j:Nat) (u:Value),OwnSt w.heap.size W a b c d e f g S fs->OwnSt w.heap.size (W.setCell ⟨w.heap.size+1,j,none⟩ u) a b c d e f g S fs:=fun W j u hW=>hW.setFar (p:=⟨w.heap.size+1,j,none⟩) hR u
 have hs:w.heap.size<=w.heap.size+1:=Nat.le_succ _
 exact⟨step _ _ _ (step _ _ _ (step _ _ _ (step _ _ _ (step _ _ _ (step _ _ _ (step _ _ _ (step _ _ _ (h.mono o_)))))))),
  (((((((hb.setCell (p:=⟨w.heap.size+1,0,none⟩) hs u0).setCell (p:=⟨w.heap.size+1,1,none⟩) hs u1).setCell (p:=⟨w.heap.size+1,2,none⟩) hs u2).setCell (p:=⟨w.heap.size+1,3,none⟩) hs u3).setCell (p:=⟨w.heap.size+1,4,none⟩) hs u4).setCell (p:=⟨w.heap.size+1,5,none⟩) hs u5).setCell (p:=⟨w.heap.size+1,6,none⟩) hs u6).setCell (p:=⟨w.heap.size+1,7,none⟩) hs u7⟩
attribute [local go_sem ↓] zU zT
theorem Xl (vn vl:Value) (ns ls:List Pr) (k:Nat) (w:World) (hn:RP w vn ns) (hl:RP w vl ls) (hk:k<ns.length) (FG:ns.length<=12) (GN:ls.length<=20) (Hr:∀j:Nat,j<ls.length->zt ns (ndI ls j)=true):
  Calls Tryz.prog 144 #[.agg #[vn,vl],.int .i64 k] w fun e w'=>∃b off n c,∃p:Nat,e= .returned (.slice (some ⟨b,off,none⟩) n c)/\0<n/\b<w'.heap.size/\w'.cell? ⟨b,off,none⟩=some (.int .i64 p)/\
   (zl ns.length ls ls.length).getD k 0=(p:Int)/\p<=k/\Below w.heap.size w w':=by
 refine(Jj vn vl ns ls k w hn hl hk FG GN Hr).mono ?_
 rintro e w' ⟨v,rfl,ho,hb⟩;obtain⟨p,h1,h2,h3⟩:=z3B (z1u Hr) hk;obtain⟨hp,Wf⟩:=List.getElem?_eq_some_iff.1 h3;obtain⟨A,c,rfl,_,_,hcell⟩:=ho.reads.form;obtain⟨b,off,rfl,Hf,hc⟩:=hcell (by rw[za];exact hp);refine⟨b,off,_,c,p,rfl,by rw[za];exact hp,Hf,?_,h1,h2,hb⟩
 have:=hc 0 (by rw[za];exact hp);rw[aaf] at this;rw[this];unfold natI;rw[List.getD,aau,h3];rfl
theorem z2i (vn vl:Value) (ns ls:List Pr) (w:World) (hn:RP w vn ns) (hl:RP w vl ls):
  CB_ 148 #[.agg #[vn,vl]] w (.int .i64 (jm ns ls)):=by
 cases hw:winB ns ls
 ·have HR:Hid (jm ns ls=0):=h_ (by simp[jm,hw])
  go_enter Tryz.func148,Tryz.ntmps148
  go_wp2_with fail
  refine(qb _ _ ns ls _ _ (hn.below bel_) (hl.below bel_) hw).mono ?_
  rintro e w1 ⟨rfl,Hb⟩;go_wp2;go_ret
  exact⟨zi HR.out.symm,by exact bel_⟩
 ·have HR:Hid (jm ns ls=(yJ ns.length ls ns.length:Int)):=h_ (by simp[jm,hw])
  have Hk:=zu.1 hw;have FG:=Hk.2.1;have GN:=Hk.2.2.1;have Bg:Hid (∀j:Nat,j<ls.length->zt ns (ndI ls j)=true):=h_ (fun j hj=>(Hk.2.2.2.2.2 j hj).1);obtain⟨An,cn,rfl,FQ,GW,_⟩:=hn.formI;unfold maxLen at GW
  go_enter Tryz.func148,Tryz.ntmps148
  go_wp2_with fail
  refine(qb _ _ ns ls _ _ (hn.below bel_) (hl.below bel_) hw).mono ?_
  rintro e w1 ⟨rfl,Hb⟩;have gc:Blk w1 w.heap.size 27 #[.slice An ns.length cn,vl]:=Blk.below (Blk.newAt rfl) Hb sz_;have Ha:Below w.heap.size w w1:=bel_
  obtain⟨a_0,a_1⟩:=gc.c2;go_wp2
  go_loopw [3,11] (fun x i wr=>∃k:Nat,k<=ns.length/\i= .int .i64 k/\x= .int .i64 (yJ ns.length ls k)/\Blk wr w.heap.size 27 #[.slice An ns.length cn,vl]/\Below w.heap.size w wr) (fun _ i _=>ns.length -(intOf i).toNat)
  case atStart=>exact⟨0,aab _,rfl,rfl,gc,Ha⟩
  case round=>
   obtain⟨k,hk,rfl,rfl,hW,Hd⟩:=hrel;have gI:=hW.lt;have ce:=Zk ns.length ls k;obtain⟨a_0,a_1⟩:=hW.c2
   by_cases Hf:k<ns.length
   ·have HY:=h_ (fun h=>Zo (n:=ns.length) (ls:=ls) (k:=k) h)
    have Ba:=h_ (fun h=>Xi (n:=ns.length) (ls:=ls) (k:=k) h);generalize yJ ns.length ls k=J at*
    go_wp2_with fail
    refine(Xl _ _ ns ls k _ (hn.below Hd) (hl.below Hd) Hf FG GN Bg.out).mono ?_
    rintro e w2 ⟨b,off,n,c,p,rfl,fX,Ge,gV,hp,hpk,Hh⟩;have gX:=hW.below Hh gI;have Hc:=Hd.trans (Hh.mono Hd.size)
    by_cases RM:p=k
    ·have HS:=h_ (HY.out (by rw[hp,RM]))
     have e1:((p:Int)==(k:Int))=true:=beq_iff_eq.2 o_;go_wp2;go_roundw
     case rel=>exact⟨k+1,by omega,by go_num,by rw[HS.out];go_num,gX,Hc⟩
     case measure=>simp[intOf];omega
    ·have HS:=h_ (Ba.out (by rw[hp];omega))
     have e1:((p:Int)==(k:Int))=false:=beq_eq_false_iff_ne.2 o_;go_wp2;go_roundw
     case rel=>exact⟨k+1,by omega,by go_num,by rw[HS.out],gX,Hc⟩
     case measure=>simp[intOf];omega
   ·have gn:k=ns.length:=o_
    subst gn;go_wp2;go_ret
    exact⟨zi HR.out.symm,Hd⟩
theorem z2M (vn vl:Value) (ns ls:List Pr) (w:World) (hn:RP w vn ns) (hl:RP w vl ls):
  CB_ 204 #[.agg #[vn,vl]] w (.int .i64 (jm ns ls)):=by
 cases hw:winB ns ls
 ·have HR:Hid (jm ns ls=0):=h_ (by simp[jm,hw])
  go_enter Tryz.func204,Tryz.ntmps204
  go_wp2_with fail
  refine(zH _ _ ns ls _ _ (hn.below bel_) (hl.below bel_) hw).mono ?_
  rintro e w1 ⟨rfl,Hb⟩;go_wp2;go_ret
  exact⟨zi HR.out.symm,by exact bel_⟩
 ·have HR:Hid (jm ns ls=(yJ ns.length ls ns.length:Int)):=h_ (by simp[jm,hw])
  have Hk:=zu.1 hw;have fX:=Hk.1;have FG:=Hk.2.1;have GN:=Hk.2.2.1;have Bg:Hid (∀j:Nat,j<ls.length->zt ns (ndI ls j)=true):=h_ (fun j hj=>(Hk.2.2.2.2.2 j hj).1);clear Hk
  go_enter Tryz.func204,Tryz.ntmps204
  go_wp2_with fail
  refine(zH _ _ ns ls _ _ (hn.below bel_) (hl.below bel_) hw).mono ?_
  rintro e w1 ⟨rfl,Hb⟩;have gc:Blk w1 w.heap.size 27 #[vn,vl]:=Blk.below (Blk.newAt rfl) Hb sz_;have Ha:Below w.heap.size w w1:=bel_
  clear Hb;obtain⟨a_0,a_1⟩:=gc.c2
  go_wp2_with fail
  refine(X4 _ _ ns ls _ (hn.below Ha) (hl.below Ha) GN FG fX Bg.out).mono ?_
  rintro e w2 ⟨v2,rfl,Hn,Hh⟩;have Hm:=jg ns.length ls ls.length;have Hc:=Ha.trans (Hh.mono Ha.size);obtain⟨A,c,rfl,_,_,hcell⟩:=Hn.reads.form;rw[Hm] at hcell⊢;obtain⟨b,off,rfl,Ge,Hz⟩:=hcell fX;have cZ:=h_ Hz;clear hcell Hz Hm Hn Hh gc Ha a_0 a_1;go_wp2
  go_loopw [4,5] (fun x i wr=>∃k:Nat,k<=ns.length/\i= .int .i64 k/\x= .int .i64 (yJ ns.length ls k)/\wr=w2) (fun _ i _=>ns.length -(intOf i).toNat)
  case atStart=>exact⟨0,aab _,rfl,rfl,rfl⟩
  case round=>
   obtain⟨k,hk,rfl,rfl,rfl⟩:=hrel;have ce:=Zk ns.length ls k
   by_cases Hf:k<ns.length
   ·have HY:=h_ (fun h=>Zo (n:=ns.length) (ls:=ls) (k:=k) h)
    have Ba:=h_ (fun h=>Xi (n:=ns.length) (ls:=ls) (k:=k) h);have fM:=cZ.out k Hf;generalize yJ ns.length ls k=J at*;generalize (zl ns.length ls ls.length).getD k 0=p at*;have Cz:(k:Int)<(ns.length:Int):=o_
    have hi0:(0:Int)<=(k:Int):=o_
    by_cases RM:p=(k:Int)
    ·have HS:=h_ (HY.out RM)
     have e1:(p==(k:Int))=true:=beq_iff_eq.2 RM;clear HY Ba RM;go_wp2;go_roundw
     case rel=>exact⟨k+1,by omega,by go_num,by rw[HS.out];go_num,by trivial⟩
     case measure=>simp[intOf];omega
    ·have HS:=h_ (Ba.out RM)
     have e1:(p==(k:Int))=false:=beq_eq_false_iff_ne.2 RM;clear HY Ba RM;go_wp2;go_roundw
     case rel=>exact⟨k+1,by omega,by go_num,by rw[HS.out],by trivial⟩
     case measure=>simp[intOf];omega
   ·have gn:k=ns.length:=o_
    subst gn;go_wp2;go_ret
    exact⟨zi HR.out.symm,Hc⟩
theorem z42 (vn vl:Value) (ns ls:List Pr) (x:Int) (w:World) (hn:RP w vn ns) (hl:RP w vl ls) (hx:jm ns ls=x):
  CB_ 204 #[.agg #[vn,vl]] w (.int .i64 x):=by
 subst hx;exact z2M vn vl ns ls w hn hl
theorem z3t (vn vl:Value) (ns ls:List Pr) (x:Int) (w:World) (hn:RP w vn ns) (hl:RP w vl ls) (hx:jm ns ls=x):
  CB_ 148 #[.agg #[vn,vl]] w (.int .i64 x):=by
 subst hx;exact z2i vn vl ns ls w hn hl
theorem z37 (vn vl:Value) (ns ls:List Pr) (w:World) (hn:RP w vn ns) (hl:RP w vl ls):
  CB_ 142 #[.agg #[vn,vl]] w (.int .i64 (qC ns ls)):=by
 cases hw:winB ns ls
 ·have HR:Hid (qC ns ls=0):=h_ (by simp[qC,hw])
  go_enter Tryz.func142,Tryz.ntmps142
  go_wp2_with fail
  refine(zH _ _ ns ls _ _ (hn.below bel_) (hl.below bel_) hw).mono ?_
  rintro e w1 ⟨rfl,Hb⟩;go_wp2;go_ret
  exact⟨zi HR.out.symm,by exact bel_⟩
 ·have Hk:=zu.1 hw
  have FG:=Hk.2.1;have GN:=Hk.2.2.1;have hpb:=ZN ns ls;obtain⟨P,hP⟩:∃P,jm ns ls=P:=⟨_,rfl⟩;have HR:Hid (qC ns ls=(ls.length:Int) -ns.length+1+P):=h_ (by unfold qC;rw[hw,aao rfl,hP]);rw[hP] at hpb;have HP:=h_ hP;obtain⟨An,cn,rfl,FQ,GW,_⟩:=hn.formI;obtain⟨Al,cl,rfl,Hz,GM,_⟩:=hl.formI;unfold maxLen at GW GM
  go_enter Tryz.func142,Tryz.ntmps142
  go_wp2_with fail
  refine(zH _ _ ns ls _ _ (hn.below bel_) (hl.below bel_) hw).mono ?_
  rintro e w1 ⟨rfl,Hb⟩;have H7:=Hb.size;(try simp at H7);(try have gY:=p0_ w w1)
  have gc:Blk w1 w.heap.size 27 #[.slice An ns.length cn,.slice Al ls.length cl]:=Blk.below (Blk.newAt rfl) Hb sz_;have Ha:Below w.heap.size w w1:=bel_
  have rn1:=hn.below Ha;have rl1:=hl.below Ha;have hw1a:IntKind.i64.wrap ((ls.length:Int) -(ns.length:Int))=(ls.length:Int) -(ns.length:Int):=aaP _ o_;have hw1b:IntKind.i64.wrap ((ls.length:Int) -(ns.length:Int)+1)=(ls.length:Int) -(ns.length:Int)+1:=aaP _ o_;have hw1c:IntKind.i64.wrap ((ls.length:Int) -(ns.length:Int)+1+P)=(ls.length:Int) -(ns.length:Int)+1+P:=aaP _ o_;obtain⟨a_0,a_1⟩:=gc.c2
  go_wp2_with fail
  (refine z7 k_ k_ (fun hG=>?_))
  repeat (go_big_quiet_step ((go_at_call 204;exact zE (z42 _ _ ns ls P _ (rn1.below (Grw.below _)) (rl1.below (Grw.below _)) HP.out))))
  refine wpQuiet_nil ?_
  rintro w2 ⟨⟨_,Fi⟩,rfl⟩;have Hc:=Ha.trans (Fi.mono Ha.size);go_wp2;go_ret
  exact⟨zi HR.out.symm,Hc⟩
theorem z2Y (vn vl:Value) (ns ls:List Pr) (w:World) (hn:RP w vn ns) (hl:RP w vl ls):
  CB_ 84 #[.agg #[vn,vl]] w (.int .i64 (qC ns ls)):=by
 cases hw:winB ns ls
 ·have HR:Hid (qC ns ls=0):=h_ (by simp[qC,hw])
  go_enter Tryz.func84,Tryz.ntmps84
  go_wp2_with fail
  refine(qb _ _ ns ls _ _ (hn.below bel_) (hl.below bel_) hw).mono ?_
  rintro e w1 ⟨rfl,Hb⟩;go_wp2;go_ret
  exact⟨zi HR.out.symm,by exact bel_⟩
 ·have Hk:=zu.1 hw
  have FG:=Hk.2.1;have GN:=Hk.2.2.1;have hpb:=ZN ns ls;obtain⟨P,hP⟩:∃P,jm ns ls=P:=⟨_,rfl⟩;have HR:Hid (qC ns ls=(ls.length:Int) -ns.length+1+P):=h_ (by unfold qC;rw[hw,aao rfl,hP]);rw[hP] at hpb;have HP:=h_ hP;obtain⟨An,cn,rfl,FQ,GW,_⟩:=hn.formI;obtain⟨Al,cl,rfl,Hz,GM,_⟩:=hl.formI;unfold maxLen at GW GM
  go_enter Tryz.func84,Tryz.ntmps84
  go_wp2_with fail
  refine(qb _ _ ns ls _ _ (hn.below bel_) (hl.below bel_) hw).mono ?_
  rintro e w1 ⟨rfl,Hb⟩;have H7:=Hb.size;(try simp at H7);(try have gY:=p0_ w w1)
  have gc:Blk w1 w.heap.size 27 #[.slice An ns.length cn,.slice Al ls.length cl]:=Blk.below (Blk.newAt rfl) Hb sz_;have Ha:Below w.heap.size w w1:=bel_
  have rn1:=hn.below Ha;have rl1:=hl.below Ha;have hw1a:IntKind.i64.wrap ((ls.length:Int) -(ns.length:Int))=(ls.length:Int) -(ns.length:Int):=aaP _ o_;have hw1b:IntKind.i64.wrap ((ls.length:Int) -(ns.length:Int)+1)=(ls.length:Int) -(ns.length:Int)+1:=aaP _ o_;have hw1c:IntKind.i64.wrap ((ls.length:Int) -(ns.length:Int)+1+P)=(ls.length:Int) -(ns.length:Int)+1+P:=aaP _ o_;obtain⟨a_0,a_1⟩:=gc.c2
  go_wp2_with fail
  (refine z7 k_ k_ (fun hG=>?_))
  repeat (go_big_quiet_step ((go_at_call 148;exact zE (z3t _ _ ns ls P _ (rn1.below (Grw.below _)) (rl1.below (Grw.below _)) HP.out))))
  refine wpQuiet_nil ?_
  rintro w2 ⟨⟨_,Fi⟩,rfl⟩;have Hc:=Ha.trans (Fi.mono Ha.size);go_wp2;go_ret
  exact⟨zi HR.out.symm,Hc⟩
theorem z3s (vn vl:Value) (ns ls:List Pr) (w:World) (hn:RP w vn ns) (hl:RP w vl ls):
  CB_ 75 #[.agg #[vn,vl]] w (.int .i64 (qF ns ls)):=by
 have hb:=QF ns ls;have HR:Hid (qF ns ls=mx2 0 (qC ns ls -1)):=h_ (by rw[vW];unfold qF;split<;>omega)
 go_enter Tryz.func75,Tryz.ntmps75
 go_wp2_with fail
 refine(z37 _ _ ns ls _ (hn.below bel_) (hl.below bel_)).mono ?_
 rintro e w1 ⟨rfl,Hb⟩;have Ha:Below w.heap.size w w1:=bel_
 generalize qC ns ls=C at*;go_wp2;go_ret
 exact⟨zi HR.out.symm,Ha⟩
theorem z3R (vn vl:Value) (ns ls:List Pr) (w:World) (hn:RP w vn ns) (hl:RP w vl ls):
  CB_ 22 #[.agg #[vn,vl]] w (.int .i64 (qF ns ls)):=by
 have hb:=QF ns ls;have HR:Hid (qF ns ls=mx2 0 (qC ns ls -1)):=h_ (by rw[vW];unfold qF;split<;>omega)
 go_enter Tryz.func22,Tryz.ntmps22
 go_wp2_with fail
 refine(z2Y _ _ ns ls _ (hn.below bel_) (hl.below bel_)).mono ?_
 rintro e w1 ⟨rfl,Hb⟩;have Ha:Below w.heap.size w w1:=bel_
 generalize qC ns ls=C at*;go_wp2;go_ret
 exact⟨zi HR.out.symm,Ha⟩
theorem Zu (vn vl:Value) (ns ls:List Pr) (x:Int) (w:World) (hn:RP w vn ns) (hl:RP w vl ls) (hx:qF ns ls=x):
  CB_ 75 #[.agg #[vn,vl]] w (.int .i64 x):=by
 subst hx;exact z3s vn vl ns ls w hn hl
theorem yO (vn vl:Value) (ns ls:List Pr) (x:Int) (w:World) (hn:RP w vn ns) (hl:RP w vl ls) (hx:qF ns ls=x):
  CB_ 22 #[.agg #[vn,vl]] w (.int .i64 x):=by
 subst hx;exact z3R vn vl ns ls w hn hl
end Go.Proofs.YtnjcpljhmhdhkaaGreat
