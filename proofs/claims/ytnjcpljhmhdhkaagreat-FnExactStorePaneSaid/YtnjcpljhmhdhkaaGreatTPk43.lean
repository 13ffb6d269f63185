/- part 43 -/
import Derived.Test.YtnjcpljhmhdhkaaGreatTPk38
import Derived.Test.YtnjcpljhmhdhkaaGreatTPk42
set_option linter.unusedSimpArgs false
set_option linter.unusedVariables false
set_option linter.unusedSectionVars false
set_option maxRecDepth 100000
set_option maxHeartbeats 2000000
namespace Go.Proofs.YtnjcpljhmhdhkaaGreat
theorem Q7 {k t u x:Int} (hk:0<k) (hu:0<u) (h:k*t=u*x):(0<t↔0<x)∧(t<0↔x<0):=by
 rcases Int.lt_trichotomy x 0 with hx|hx|hx
 ·have:=Int.mul_sign_neg hk h hu hx;omega
 ·subst hx;have:=Int.mul_sign_zero hk h;omega
 ·have:=Int.mul_sign_pos hk h hu hx;omega
theorem XM (a b c:Pr):zN a b c=zN b c a:=by unfold zN zK;grind
def upP (v t:Pr):Bool:=decide (qE v.1 v.2 t.1 t.2=0)
theorem Za {v t:Pr}:upP v t=true↔t.2>v.2∨(t.2=v.2∧t.1>v.1):=by
 unfold upP qE;rw[decide_eq_true_eq]
 split
 ·rename_i h;simp[h]
 ·rename_i h
  constructor
  ·intro h2;omega
  ·intro h2;exact absurd h2 h
theorem z1L {v t:Pr}:upP v t=false↔¬(t.2>v.2∨(t.2=v.2∧t.1>v.1)):=by
 rw[←Za];cases upP v t<;>simp
section
variable {v t u:Pr} (hv:j9 v=true) (ht:j9 t=true) (hu:j9 u=true)
include hv ht hu
theorem z2E (h1:upP v t=true) (h2:upP v u=true) (h3:Xp v<Xp t) (h4:Xp u<Xp v):0<zN v t u:=by
 have b1:=zr hv;have b2:=zr ht;have b3:=zr hu;rw[Za] at h1 h2;unfold Xp at h3 h4;unfold zN zK;obtain⟨p,hp⟩:∃p,t.1 -v.1=p:=⟨_,rfl⟩;obtain⟨q,hq⟩:∃q,t.2 -v.2=q:=⟨_,rfl⟩;obtain⟨r,hr⟩:∃r,u.1 -v.1=r:=⟨_,rfl⟩;obtain⟨s,hs⟩:∃s,u.2 -v.2=s:=⟨_,rfl⟩;rw[hp,hq,hr,hs];have c1:0≤p:=by omega
 have c2:0≤q:=by omega
 have c3:0< -r:=by omega
 have c4:0<s:=by omega
 have m1:=Int.mul_nonneg c1 (Int.le_of_lt c4);have m2:=Int.mul_nonneg c2 (Int.le_of_lt c3);rw[Int.mul_neg] at m2
 by_cases h0:p=0
 ·have:=Int.mul_pos (show 0<q by omega) c3
  rw[Int.mul_neg] at this;omega
 ·have:=Int.mul_pos (show 0<p by omega) c4
  omega
theorem z2k (h1:upP v t=false) (h2:upP v u=false) (h3:Xp t<Xp v) (h4:Xp v<Xp u):0<zN v t u:=by
 have b1:=zr hv;have b2:=zr ht;have b3:=zr hu;rw[z1L] at h1 h2;unfold Xp at h3 h4;unfold zN zK;obtain⟨p,hp⟩:∃p,t.1 -v.1=p:=⟨_,rfl⟩;obtain⟨q,hq⟩:∃q,t.2 -v.2=q:=⟨_,rfl⟩;obtain⟨r,hr⟩:∃r,u.1 -v.1=r:=⟨_,rfl⟩;obtain⟨s,hs⟩:∃s,u.2 -v.2=s:=⟨_,rfl⟩;rw[hp,hq,hr,hs];have c1:0≤ -p:=by omega
 have c2:0≤ -q:=by omega
 have c3:0<r:=by omega
 have c4:0< -s:=by omega
 have m1:=Int.mul_nonneg c1 (Int.le_of_lt c4);have m2:=Int.mul_nonneg c2 (Int.le_of_lt c3);rw[Int.neg_mul_neg] at m1;rw[Int.neg_mul] at m2
 by_cases h0:p=0
 ·have:=Int.mul_pos (show 0< -q by omega) c3
  rw[Int.neg_mul] at this;omega
 ·have:=Int.mul_pos (show 0< -p by omega) c4
  rw[Int.neg_mul_neg] at this;omega
theorem z4L (h1:upP v t=false) (h2:upP v u=true) (h3:Xp v<Xp t) (h4:Xp v<Xp u):0<zN v t u:=by
 have b1:=zr hv;have b2:=zr ht;have b3:=zr hu;rw[z1L] at h1;rw[Za] at h2;unfold Xp at h3 h4;unfold zN zK;obtain⟨p,hp⟩:∃p,t.1 -v.1=p:=⟨_,rfl⟩;obtain⟨q,hq⟩:∃q,t.2 -v.2=q:=⟨_,rfl⟩;obtain⟨r,hr⟩:∃r,u.1 -v.1=r:=⟨_,rfl⟩;obtain⟨s,hs⟩:∃s,u.2 -v.2=s:=⟨_,rfl⟩;rw[hp,hq,hr,hs];have c1:0<p:=by omega
 have c2:0< -q:=by omega
 have c3:0≤r:=by omega
 have c4:0≤s:=by omega
 have m1:=Int.mul_nonneg (Int.le_of_lt c1) c4;have m2:=Int.mul_nonneg (Int.le_of_lt c2) c3;rw[Int.neg_mul] at m2
 by_cases h0:r=0
 ·have:=Int.mul_pos c1 (show 0<s by omega)
  omega
 ·have:=Int.mul_pos c2 (show 0<r by omega)
  rw[Int.neg_mul] at this;omega
theorem z4n (h1:upP v t=false) (h2:upP v u=true) (h3:Xp t<Xp v) (h4:Xp u<Xp v):zN v t u<0:=by
 have b1:=zr hv;have b2:=zr ht;have b3:=zr hu;rw[z1L] at h1;rw[Za] at h2;unfold Xp at h3 h4;unfold zN zK;obtain⟨p,hp⟩:∃p,t.1 -v.1=p:=⟨_,rfl⟩;obtain⟨q,hq⟩:∃q,t.2 -v.2=q:=⟨_,rfl⟩;obtain⟨r,hr⟩:∃r,u.1 -v.1=r:=⟨_,rfl⟩;obtain⟨s,hs⟩:∃s,u.2 -v.2=s:=⟨_,rfl⟩;rw[hp,hq,hr,hs];have c1:0≤ -p:=by omega
 have c2:0≤ -q:=by omega
 have c3:0< -r:=by omega
 have c4:0<s:=by omega
 have m1:=Int.mul_nonneg c1 (Int.le_of_lt c4);have m2:=Int.mul_nonneg c2 (Int.le_of_lt c3);rw[Int.neg_mul] at m1;rw[Int.neg_mul_neg] at m2
 by_cases h0:p=0
 ·have:=Int.mul_pos (show 0< -q by omega) c3
  rw[Int.neg_mul_neg] at this;omega
 ·have:=Int.mul_pos (show 0< -p by omega) c4
  rw[Int.neg_mul] at this;omega
end
theorem ZK (a b:Pr):zN a b b=0:=turn_self2' a b where
 turn_self2' (a b:Pr):zN a b b=0:=by unfold zN zK;grind
section
variable {ns ls:List Pr} {P:Int} {A B:Nat→Int} (h:q7 ns ls) (hh:Hts ns ls P A B)
include h hh
theorem Vg {d e v:Nat} (hd:d<2*ls.length) (he:e<2*ls.length) (h1:zd ls d=(v:Int)) (h2:zd ls e=(v:Int)) (f1:fwD ns ls d=true) (f2:fwD ns ls e=true):
  BelW ns ls A B (d/2) (e/2)↔0<zN (ptN ns v) (ndI ns (dTo ls d)) (ndI ns (dTo ls e)):=by
 by_cases hde:d=e
 ·subst hde
  rw[ZK];unfold BelW dH;omega
 have hne:d/2≠e/2:=fun hc=>hde (Qi h hd he (f1.trans f2.symm) hc)
 obtain⟨_,a1,a2⟩:fwD ns ls d=true∧zd ls d=(lN ns ls (d/2):Int)∧dTo ls d=(rN ns ls (d/2):Int):=by
  rcases qP h hd with h3|h3
  ·exact h3
  ·rw[f1] at h3;cases h3.1
 obtain⟨_,b1,b2⟩:fwD ns ls e=true∧zd ls e=(lN ns ls (e/2):Int)∧dTo ls e=(rN ns ls (e/2):Int):=by
  rcases qP h he with h3|h3
  ·exact h3
  ·rw[f2] at h3;cases h3.1
 have hi:d/2<ls.length:=by omega
 have hj:e/2<ls.length:=by omega
 rw[a2,b2];rw[a1] at h1;rw[b1] at h2;generalize d/2=i at*;generalize e/2=j at*;have Ei:=zG h hi;have Ej:=zG h hj;have v1:lN ns ls i=v:=by omega
 have v2:lN ns ls j=v:=by omega
 have t1:=jq hh hi (ptN ns (rN ns ls j));have t2:=jq hh hj (ptN ns (rN ns ls i));obtain⟨c1,c2⟩:=hh.2 i hi;obtain⟨c3,c4⟩:=hh.2 j hj;rw[v1] at t1 c1 Ei;rw[v2] at t2 c3 Ej;have hlt:loW ns ls i j<hiW ns ls i j:=by unfold loW hiW;rw[v1,v2];omega
 have hlo:loW ns ls i j=Xp (ptN ns v):=by unfold loW;rw[v1,v2];omega
 have hor:=ZX h hh hi hj hne hlt
 have hbel:BelW ns ls A B i j↔dH A B i j (hiW ns ls i j)<0:=by
  have z:dH A B i j (loW ns ls i j)=0:=by rw[hlo];unfold dH;omega
  unfold BelW at hor⊢;omega
 rw[hbel];have hP:0<P*42:=by have:=hh.1;omega
 show _↔0<zN (ptN ns v) (ptN ns (rN ns ls i)) (ptN ns (rN ns ls j))
 by_cases hx:Xp (ptN ns (rN ns ls i))≤Xp (ptN ns (rN ns ls j))
 ·rw[show hiW ns ls i j=Xp (ptN ns (rN ns ls i)) by unfold hiW;omega]
  have:=(Q7 hP (by omega) t2).2;rw[yy] at this;unfold dH;omega
 ·rw[show hiW ns ls i j=Xp (ptN ns (rN ns ls j)) by unfold hiW;omega]
  have:=(Q7 hP (by omega) t1).1;unfold dH;omega
theorem z0y {d e v:Nat} (hd:d<2*ls.length) (he:e<2*ls.length) (h1:zd ls d=(v:Int)) (h2:zd ls e=(v:Int)) (f1:fwD ns ls d=false) (f2:fwD ns ls e=false):
  BelW ns ls A B (d/2) (e/2)↔zN (ptN ns v) (ndI ns (dTo ls d)) (ndI ns (dTo ls e))<0:=by
 by_cases hde:d=e
 ·subst hde
  rw[ZK];unfold BelW dH;omega
 have hne:d/2≠e/2:=fun hc=>hde (Qi h hd he (f1.trans f2.symm) hc)
 obtain⟨_,a1,a2⟩:fwD ns ls d=false∧zd ls d=(rN ns ls (d/2):Int)∧dTo ls d=(lN ns ls (d/2):Int):=by
  rcases qP h hd with h3|h3
  ·rw[f1] at h3;cases h3.1
  ·exact h3
 obtain⟨_,b1,b2⟩:fwD ns ls e=false∧zd ls e=(rN ns ls (e/2):Int)∧dTo ls e=(lN ns ls (e/2):Int):=by
  rcases qP h he with h3|h3
  ·rw[f2] at h3;cases h3.1
  ·exact h3
 have hi:d/2<ls.length:=by omega
 have hj:e/2<ls.length:=by omega
 rw[a2,b2];rw[a1] at h1;rw[b1] at h2;generalize d/2=i at*;generalize e/2=j at*;have Ei:=zG h hi;have Ej:=zG h hj;have v1:rN ns ls i=v:=by omega
 have v2:rN ns ls j=v:=by omega
 have t1:=jq hh hi (ptN ns (lN ns ls j));have t2:=jq hh hj (ptN ns (lN ns ls i));obtain⟨c1,c2⟩:=hh.2 i hi;obtain⟨c3,c4⟩:=hh.2 j hj;rw[v1] at t1 c2 Ei;rw[v2] at t2 c4 Ej;have hlt:loW ns ls i j<hiW ns ls i j:=by unfold loW hiW;rw[v1,v2];omega
 have hhi:hiW ns ls i j=Xp (ptN ns v):=by unfold hiW;rw[v1,v2];omega
 have hor:=ZX h hh hi hj hne hlt
 have hbel:BelW ns ls A B i j↔dH A B i j (loW ns ls i j)<0:=by
  have z:dH A B i j (hiW ns ls i j)=0:=by rw[hhi];unfold dH;omega
  unfold BelW at hor⊢;omega
 rw[hbel];have hP:0<P*42:=by have:=hh.1;omega
 show _↔zN (ptN ns v) (ptN ns (lN ns ls i)) (ptN ns (lN ns ls j))<0
 by_cases hx:Xp (ptN ns (lN ns ls j))≤Xp (ptN ns (lN ns ls i))
 ·rw[show loW ns ls i j=Xp (ptN ns (lN ns ls i)) by unfold loW;omega]
  have:=(Q7 hP (by omega) t2).2;rw[XM] at this;unfold dH;omega
 ·rw[show loW ns ls i j=Xp (ptN ns (lN ns ls j)) by unfold loW;omega]
  have:=(Q7 hP (by omega) t1).1;rw[XM,yy] at this;unfold dH;omega
theorem Xj {d e v:Nat} (hv:v<ns.length) (hd:d<2*ls.length) (he:e<2*ls.length):
  bfD ns ls v d e=true↔(upP (ptN ns v) (ndI ns (dTo ls d))=upP (ptN ns v) (ndI ns (dTo ls e))∧0<zN (ptN ns v) (ndI ns (dTo ls d)) (ndI ns (dTo ls e)))∨(upP (ptN ns v) (ndI ns (dTo ls d))=true∧upP (ptN ns v) (ndI ns (dTo ls e))=false):=by
 have hld:∀j:Nat,j<ls.length→zj ns (ndI ls j)=true:=fun j hj=>jm h hj
 obtain⟨p,hp,hp2⟩:=jh hld hd;obtain⟨q,hq,hq2⟩:=jh hld he;have n0:=qB h hv;have n1:=qB h hp2;have n2:=qB h hq2;unfold ptN at n0 n1 n2⊢;rw[hp,hq];unfold j9 at n0 n1 n2;unfold bfD befB;rw[hp,hq,n0,n1,n2];simp only[Bool.true_and]
 unfold zN upP;have h1:∀a b c d:Int,qE a b c d=0∨qE a b c d=1:=by intro a b c d;unfold qE;split<;>simp
 rcases h1 (ndI ns v).1 (ndI ns v).2 (ndI ns p).1 (ndI ns p).2 with e1|e1<;>rcases h1 (ndI ns v).1 (ndI ns v).2 (ndI ns q).1 (ndI ns q).2 with e2|e2<;>rw[e1,e2]<;>simp
theorem z5E {v:Nat} (hv:v<ns.length) (hu:yO ls v):
  (swW h hh).Ring (rkN ns ls v) (fun e=>e<2*ls.length∧zd ls e=(v:Int)) (fwD ns ls) (fun e=>upP (ptN ns v) (ndI ns (dTo ls e))) (fun e=>e/2) (fun d e=>bfD ns ls v d e=true):=by
 have hld:∀j:Nat,j<ls.length→zj ns (ndI ls j)=true:=fun j hj=>jm h hj
 have n0:=qB h hv
 have nT:∀d,d<2*ls.length→j9 (ndI ns (dTo ls d))=true:=by
  intro d hd;obtain⟨p,hp,hp2⟩:=jh hld hd;rw[hp];exact qB h hp2
 have fR:∀d,zd ls d=(v:Int)→fwD ns ls d=true→Xp (ptN ns v)<Xp (ndI ns (dTo ls d)):=by
  intro d h1 h2;unfold fwD at h2;rw[h1] at h2;exact of_decide_eq_true h2
 have fL:∀d,d<2*ls.length→zd ls d=(v:Int)→fwD ns ls d=false→Xp (ndI ns (dTo ls d))<Xp (ptN ns v):=by
  intro d hd h1 h2;have h3:=VW h hd;unfold fwD at h2;rw[h1] at h2 h3;have:=of_decide_eq_false h2;unfold ptN;omega
 constructor
 ·intro e he;show e/2<_;have:=he.1;omega
 ·intro e he hr
  rcases qP h he.1 with h3|h3
  ·have h4:=he.2
   rw[h3.2.1] at h4
   show rkN ns ls (lN ns ls (e/2))=_
   rw[show lN ns ls (e/2)=v by omega]
  ·rw[hr] at h3;cases h3.1
 ·intro e he hr
  rcases qP h he.1 with h3|h3
  ·rw[hr] at h3;cases h3.1
  ·have h4:=he.2
   rw[h3.2.1] at h4
   show rkN ns ls (rN ns ls (e/2))=_
   rw[show rN ns ls (e/2)=v by omega]
 ·intro k hk hs
  have e1:=VB h (zG h hk).1 hv (yE h hk) hu hs;obtain⟨d,hd,hf,he⟩:=xI h hk true;refine⟨d,⟨hd,?_⟩,hf,he⟩
  rcases qP h hd with h3|h3
  ·rw[h3.2.1,he,e1]
  ·rw[hf] at h3;cases h3.1
 ·intro k hk hs
  have e1:=VB h (zG h hk).2.1 hv (ZJ h hk) hu hs;obtain⟨d,hd,hf,he⟩:=xI h hk false;refine⟨d,⟨hd,?_⟩,hf,he⟩
  rcases qP h hd with h3|h3
  ·rw[hf] at h3;cases h3.1
  ·rw[h3.2.1,he,e1]
 ·intro d e hd he hr hj
  exact Qi h hd.1 he.1 hr hj
 ·intro d e hd he hr h1 h2
  show BelW ns ls A B (d/2) (e/2)
  cases hc:fwD ns ls e
  ·rw[z0y h hh hd.1 he.1 hd.2 he.2 (hr.trans hc) hc]
   exact z4n n0 (nT d hd.1) (nT e he.1) h1 h2 (fL d hd.1 hd.2 (hr.trans hc)) (fL e he.1 he.2 hc)
  ·rw[Vg h hh hd.1 he.1 hd.2 he.2 (hr.trans hc) hc]
   exact z4L n0 (nT d hd.1) (nT e he.1) h1 h2 (fR d hd.2 (hr.trans hc)) (fR e he.2 hc)
 ·intro d e hd he h1 h2
  rw[Xj h hh hv hd.1 he.1];have hb:BelW ns ls A B (d/2) (e/2)↔_:=Vg h hh hd.1 he.1 hd.2 he.2 h1 h2
  show _↔_∨(_∧BelW ns ls A B (d/2) (e/2))
  rw[hb,Or.comm]
 ·intro d e hd he h1 h2
  rw[Xj h hh hv hd.1 he.1];have hb:BelW ns ls A B (e/2) (d/2)↔_:=z0y h hh he.1 hd.1 he.2 hd.2 h2 h1
  show _↔_∨(_∧BelW ns ls A B (e/2) (d/2))
  rw[hb,Or.comm,yy]
  constructor
  ·rintro(h3|⟨h3,h4⟩)
   ·exact .inl h3
   ·exact .inr ⟨h3,by omega⟩
  ·rintro(h3|⟨h3,h4⟩)
   ·exact .inl h3
   ·exact .inr ⟨h3,by omega⟩
 ·intro d e hd he h1 h2
  rw[Xj h hh hv hd.1 he.1];have x1:=fR d hd.2 h1;have x2:=fL e he.1 he.2 h2
  show _↔upP (ptN ns v) (ndI ns (dTo ls d))=true
  cases c1:upP (ptN ns v) (ndI ns (dTo ls d))<;>cases c2:upP (ptN ns v) (ndI ns (dTo ls e))
  ·have:=z2k n0 (nT e he.1) (nT d hd.1) c2 c1 x2 x1
   rw[yy] at this;simp;omega
  ·simp
  ·simp
  ·have:=z2E n0 (nT d hd.1) (nT e he.1) c1 c2 x1 x2
   simp;omega
 ·intro d e hd he h1 h2
  rw[Xj h hh hv hd.1 he.1];have x1:=fL d hd.1 hd.2 h1;have x2:=fR e he.2 h2
  show _↔upP (ptN ns v) (ndI ns (dTo ls e))=false
  cases c1:upP (ptN ns v) (ndI ns (dTo ls d))<;>cases c2:upP (ptN ns v) (ndI ns (dTo ls e))
  ·have:=z2k n0 (nT d hd.1) (nT e he.1) c1 c2 x1 x2
   simp;omega
  ·simp
  ·simp
  ·have:=z2E n0 (nT e he.1) (nT d hd.1) c2 c1 x2 x1
   rw[yy] at this;simp;omega
end
theorem JN {bf:Nat→Bool} {G:List Nat}:∀ {a i:Nat},posN bf G a≤i→i<a→bf (G.getD i 0)=true
 |0,i,h1,h2=>absurd h2 (by omega)
 |a+1,i,h1,h2=>by
  unfold posN at h1
  split at h1
  ·rename_i hb
   by_cases he:i=a
   ·subst he;exact hb
   ·exact JN h1 (by omega)
  ·omega
theorem JW {bf:Nat→Bool} {G:List Nat}:∀ {a p:Nat},posN bf G a=p+1→bf (G.getD p 0)=false
 |0,p,h=>by unfold posN at h;omega
 |a+1,p,h=>by
  unfold posN at h
  split at h
  ·exact JW h
  ·rename_i hb
   have:a=p:=by omega
   subst this
   simpa using hb
theorem XT {lt:Nat→Nat→Bool} {d:Nat} {G:List Nat} (hs:G.Pairwise (fun x y=>lt x y=true)) (ht:∀x∈G,lt x d=true∨lt d x=true) (htr:∀x∈G,∀y∈G,lt x y=true→lt y d=true→lt x d=true):
  (insN (lt d) d G).Pairwise (fun x y=>lt x y=true):=by
 have hp:=Vw (lt d) G G.length
 have hdrop:∀y∈G.drop (posN (lt d) G G.length),lt d y=true:=by
  intro y hy;obtain⟨i,hi,rfl⟩:=List.getElem_of_mem hy;rw[List.length_drop] at hi;rw[List.getElem_drop];have:=JN (bf:=lt d) (G:=G) (a:=G.length) (i:=posN (lt d) G G.length+i) (by omega) (by omega);rw[List.getD,List.getElem?_eq_getElem (by omega)] at this;exact this
 have htake:∀x∈G.take (posN (lt d) G G.length),lt x d=true:=by
  intro x hx;obtain⟨i,hi,rfl⟩:=List.getElem_of_mem hx;rw[List.length_take] at hi;rw[List.getElem_take];obtain⟨p,hpp⟩:∃p,posN (lt d) G G.length=p+1:=⟨posN (lt d) G G.length -1,by omega⟩;have hstop:=JW hpp;rw[List.getD,List.getElem?_eq_getElem (by omega)] at hstop
  have hlast:lt (G[p]'(by omega)) d=true:=by
   rcases ht _ (List.getElem_mem (show p<G.length by omega)) with h1|h1
   ·exact h1
   ·have hstop':lt d (G[p]'(by omega))=false:=hstop
    rw[hstop'] at h1;cases h1
  by_cases he:i=p
  ·subst he;exact hlast
  ·exact htr _ (List.getElem_mem (by omega)) _ (List.getElem_mem (by omega)) (List.pairwise_iff_getElem.1 hs i p (by omega) (by omega) (by omega)) hlast
 unfold insN;rw[List.pairwise_append,List.pairwise_cons];refine⟨hs.sublist (List.take_sublist _ _),⟨hdrop,hs.sublist (List.drop_sublist _ _)⟩,?_⟩
 intro x hx y hy
 rcases List.mem_cons.1 hy with rfl|hy
 ·exact htake x hx
 ·have:=List.pairwise_append.1 (show(G.take (posN (lt d) G G.length)++G.drop (posN (lt d) G G.length)).Pairwise (fun x y=>lt x y=true) by rw[List.take_append_drop];exact hs)
  exact this.2.2 x hx y hy
theorem z0Z {lt:Nat→Nat→Bool} {L:List Nat} {U:Nat→Prop} (hU:∀g,U g↔g∈L) (hs:L.Pairwise (fun x y=>lt x y=true)) (hirr:∀x,U x→¬lt x x=true) (htr:∀x y z,U x→U y→U z→lt x y=true→lt y z=true→lt x z=true)
  {e:Nat} (he:e∈L):Swp.Ahead U (fun x y=>lt x y=true) (L.getD ((L.idxOf e+L.length -1)%L.length) 0) e:=by
 have hi:L.idxOf e<L.length:=List.idxOf_lt_length_of_mem he;have hge:L[L.idxOf e]=e:=List.getElem_idxOf hi;generalize L.idxOf e=i at*;have hsi:=List.pairwise_iff_getElem.1 hs;have asy:∀x y,U x→U y→lt x y=true→¬lt y x=true:=fun x y hx hy h1 h2=>hirr x hx (htr x y x hx hy hx h1 h2)
 have hm:∀k (hk:k<L.length),U L[k]:=fun k hk=>(hU _).2 (List.getElem_mem hk)
 by_cases h0:i=0
 ·right
  subst h0;rw[show(0+L.length -1)%L.length=L.length -1 by rw[Nat.mod_eq_of_lt (by omega)];omega,List.getD,List.getElem?_eq_getElem (show L.length -1<L.length by omega)]
  constructor
  ·intro g hg hc
   obtain⟨k,hk,rfl⟩:=List.getElem_of_mem ((hU g).1 hg);rw[←hge] at hc
   by_cases hk0:k=0
   ·subst hk0;exact hirr _ hg hc
   ·exact asy _ _ (hm _ _) hg (hsi 0 k hi hk (by omega)) hc
  ·intro g hg hc
   obtain⟨k,hk,rfl⟩:=List.getElem_of_mem ((hU g).1 hg);have hc':lt (L[L.length -1]'(by omega)) L[k]=true:=hc
   by_cases hk0:k=L.length -1
   ·subst hk0;exact hirr _ hg hc'
   ·exact asy _ _ hg (hm _ _) (hsi k (L.length -1) hk (by omega) (by omega)) hc'
 ·left
  have hmod:(i+L.length -1)%L.length=i -1:=by
   rw[show i+L.length -1=(i -1)+L.length by omega,Nat.add_mod_right,Nat.mod_eq_of_lt (by omega)]
  rw[hmod,List.getD,List.getElem?_eq_getElem (show i -1<L.length by omega)]
  constructor
  ·have:=hsi (i -1) i (by omega) hi (by omega)
   rw[hge] at this;exact this
  ·rintro g hg ⟨h1,h2⟩
   obtain⟨k,hk,rfl⟩:=List.getElem_of_mem ((hU g).1 hg);have h1':lt (L[i -1]'(by omega)) L[k]=true:=h1;rw[←hge] at h2
   by_cases hk1:k≤i -1
   ·by_cases hk2:k=i -1
    ·subst hk2;exact hirr _ hg h1'
    ·exact asy _ _ hg (hm _ _) (hsi k (i -1) hk (by omega) (by omega)) h1'
   ·by_cases hk2:k=i
    ·subst hk2;exact hirr _ hg h2
    ·exact asy _ _ (hm _ _) hg (hsi i k hi hk (by omega)) h2
section
variable {ns ls:List Pr} {P:Int} {A B:Nat→Int} (h:q7 ns ls) (hh:Hts ns ls P A B)
include h hh
theorem Zm {v:Nat} (hv:v<ns.length) (hu:yO ls v):∀M,M≤2*ls.length→(ardS ns ls v M).Pairwise (fun x y=>bfD ns ls v x y=true)
 |0,_=>by simp[ardS]
 |M+1,hM=>by
  have ih:=Zm hv hu M (by omega);have hR:=z5E h hh hv hu
  by_cases hf:zd ls M=(v:Int)
  ·rw[vm hf]
   have hUM:M<2*ls.length∧zd ls M=(v:Int):=⟨by omega,hf⟩;have hUx:∀x∈ardS ns ls v M,x<M∧zd ls x=(v:Int):=fun x hx=>(jz ns ls v M x).1 hx
   refine XT ih (fun x hx=>?_) (fun x hx y hy h1 h2=>?_)
   ·exact(swW h hh).bf_tot hR (d:=x) (e:=M) ⟨by have:=(hUx x hx).1;omega,(hUx x hx).2⟩ hUM (by have:=(hUx x hx).1;omega)
   ·exact(swW h hh).bf_trans hR (d:=x) (e:=y) (f:=M) ⟨by have:=(hUx x hx).1;omega,(hUx x hx).2⟩ ⟨by have:=(hUx y hy).1;omega,(hUx y hy).2⟩ hUM h1 h2
  ·rw[kO hf];exact ih
theorem z34 {d:Nat} (hd:d<2*ls.length):∃s,s<evN ns ls∧(swW h hh).Turn s (fwD ns ls d) (d/2) (fwD ns ls (qv ns ls d)) (qv ns ls d/2):=by
 have hld:∀j:Nat,j<ls.length→zj ns (ndI ls j)=true:=fun j hj=>jm h hj
 have hte:=jw hd;obtain⟨v,hv1,hv2⟩:=qh hld hte;have hu:yO ls v:=⟨twin d,hte,hv1⟩;have hR:=z5E h hh hv2 hu;have hring:qi ns ls (twin d)=ardS ns ls v (2*ls.length):=by unfold qi;rw[hv1,Int.toNat_natCast]
 have ha:=z0Z (lt:=bfD ns ls v) (L:=ardS ns ls v (2*ls.length)) (U:=fun e=>e<2*ls.length∧zd ls e=(v:Int)) (fun g=>(jz ns ls v _ g).symm) (Zm h hh hv2 hu _ (Nat.le_refl _))
  (fun x hx=>(swW h hh).bf_irr hR hx) (fun x y z hx hy hz=>(swW h hh).bf_trans hR hx hy hz) (e:=twin d) (by rw[←hring];exact vu hld hte)
 have hnext:qv ns ls d=(ardS ns ls v (2*ls.length)).getD (((ardS ns ls v (2*ls.length)).idxOf (twin d)+(ardS ns ls v (2*ls.length)).length -1)%(ardS ns ls v (2*ls.length)).length) 0:=by
  unfold qv ye;rw[hring]
 rw[←hnext] at ha;have hn1:=Vu hld hd;have hn2:=z3w hld hd;rw[←j5,hv1] at hn2;have ht:=(swW h hh).ring_turn hR (e:=twin d) (f:=qv ns ls d) ⟨hte,hv1⟩ ⟨hn1,hn2⟩ ha;refine⟨rkN ns ls v,z5M hv2 hu,?_⟩
 rw[z2w (VW h hd),Bool.not_not,z35] at ht;exact ht
noncomputable def regD (d:Nat):Nat:=(swW h hh).reg (fwD ns ls d) (d/2)
theorem z3O {d:Nat} (hd:d<2*ls.length):regD h hh (qv ns ls d)=regD h hh d:=by
 have hld:∀j:Nat,j<ls.length→zj ns (ndI ls j)=true:=fun j hj=>jm h hj
 obtain⟨s,hs,ht⟩:=z34 h hh hd;exact((swW h hh).turn_reg hs (by omega) (by have:=Vu hld hd;omega) ht).symm
theorem VK {d:Nat} (hd:d<2*ls.length):∀k,regD h hh (orbD ns ls d k)=regD h hh d
 |0=>rfl
 |k+1=>by
  have hld:∀j:Nat,j<ls.length→zj ns (ndI ls j)=true:=fun j hj=>jm h hj
  show regD h hh (qv ns ls (orbD ns ls d k))=_
  rw[z3O h hh (kl hld hd k)];exact VK hd k
theorem z46 {d e:Nat} (hd:d<2*ls.length) (he:e<2*ls.length) (hf:qJ (zk ns ls) d=qJ (zk ns ls) e):regD h hh d=regD h hh e:=by
 have hld:∀j:Nat,j<ls.length→zj ns (ndI ls j)=true:=fun j hj=>jm h hj
 obtain⟨f1,f2,f3⟩:=j7 hld (2*ls.length) (Nat.le_refl _);have a1:=yB (f1 d hd);have a2:=yB (f1 e he);have a1':d∈(zk ns ls).getD (qJ (zk ns ls) d) []:=a1.2;have a2':e∈(zk ns ls).getD (qJ (zk ns ls) e) []:=a2.2;rw[←hf] at a2';have hlt:qJ (zk ns ls) d<(zk ns ls).length :=a1.1;rw[List.getD,List.getElem?_eq_getElem hlt] at a1' a2';obtain⟨x,hx,hw⟩:=f3 _ (List.getElem_mem hlt);have hw':(zk ns ls)[qJ (zk ns ls) d]=qe ns ls x:=hw;have b1:d∈qe ns ls x:=by rw[←hw'];exact a1'
 have b2:e∈qe ns ls x:=by rw[←hw'];exact a2'
 obtain⟨i,hi⟩:=(jM hld hx d).1 b1;obtain⟨j,hj⟩:=(jM hld hx e).1 b2;rw[←hi,←hj,VK h hh hx,VK h hh hx]
end
theorem z31 {ns ls:List Pr} (h:q7 ns ls) (hm:0<ls.length):ls.length+2≤(zk ns ls).length +evN ns ls:=by
 obtain⟨P,A,B,hh⟩:=z5V h;have hld:∀j:Nat,j<ls.length→zj ns (ndI ls j)=true:=fun j hj=>jm h hj
 obtain⟨f1,f2,f3⟩:=j7 hld (2*ls.length) (Nat.le_refl _)
 have hdx:∀(fw:Bool) (j:Nat),∃d,j<ls.length→d<2*ls.length∧fwD ns ls d=fw∧d/2=j:=by
  intro fw j
  by_cases hj:j<ls.length
  ·obtain⟨d,hd⟩:=xI h hj fw;exact⟨d,fun _=>hd⟩
  ·exact⟨0,fun hc=>absurd hc hj⟩
 let g:Bool→Nat→Nat:=fun fw j=>(hdx fw j).choose
 have hg:∀fw j,j<ls.length→g fw j<2*ls.length∧fwD ns ls (g fw j)=fw∧g fw j/2=j:=fun fw j hj=>(hdx fw j).choose_spec hj
 refine(swW h hh).faces_ge hm (F:=(zk ns ls).length) (fun fw j=>qJ (zk ns ls) (g fw j)) (fun fw j hj=>(yB (f1 _ (hg fw j hj).1)).1) (fun fw j fw' j' hj hj' he=>?_)
 have a1:=hg fw j hj;have a2:=hg fw' j' hj';have:=z46 h hh a1.1 a2.1 he;unfold regD at this;rw[a1.2.1,a1.2.2,a2.2.1,a2.2.2] at this;exact this
theorem z3V {ns ls:List Pr} (h:q7 ns ls) (hm:0<ls.length):ls.length+2≤(zk ns ls).length +ns.length:=by
 have:=z31 h hm;have:=z5Q ns ls;omega
noncomputable def dgN (ls:List Pr) (v:Nat):Nat:=cn (2*ls.length) (fun d=>zd ls d=(v:Int))
def d3 (ls:List Pr) (d:Nat):Prop:=3≤dgN ls (zd ls d).toNat
section
variable {ns ls:List Pr} (h:q7 ns ls)
include h
end
theorem z0U {ns ls:List Pr} (hw:zm ns ls=true):(zk ns ls).length +ns.length=ls.length+2:=by
 have h1:=z4h hw;have h2:=z3V (zW hw).1 (zW hw).2;omega
theorem Xc {ns ls:List Pr} (hw:zm ns ls=true):zb ns ls=zk ns ls:=by unfold zb;rw[hw];rfl
open Go.RowKit
theorem XW {zs:List Int} {x:Int} {k:Nat} (hk:k<zs.length) (h:x∉zs.take k) (hne:zs.getD k 0≠x):x∉zs.take (k+1):=by
 rw[List.take_succ_eq_append_getElem hk,List.mem_append,List.mem_singleton];rintro(h2|h2)
 ·exact h h2
 ·exact hne (by rw[h2];simp[List.getD,hk])
theorem z5X {zs:List Int} {k:Nat} (hk:k<zs.length):zs.getD k 0∈zs:=by
 rw[List.getD,List.getElem?_eq_getElem hk];exact List.getElem_mem hk
theorem z4I (v:Value) (zs:List Int) (x:Int) (w:World) (h:RI w v zs):
  Calls Tryz.prog 190 #[v,.int .i64 x] w fun e w'=>e= .returned (.bool (decide (x∈zs)))∧w=w':=by
 obtain⟨A,c,rfl,hc,hm,hcell⟩:=h.form;unfold maxLen at hm;clear h
 go_enter Tryz.func190,Tryz.ntmps190
 go_wp2
 go_loop [9] (fun i=>∃k:Nat,k≤zs.length∧i= .int .i64 k∧Hid (x∉zs.take k)) (fun i=>zs.length -(intOf i).toNat)
 case atStart=>exact⟨0,Nat.zero_le _,rfl,Lib.hid (by simp)⟩
 case round=>
  obtain⟨k,hk,rfl,HT⟩:=hrel
  by_cases hlt:k<zs.length
  ·obtain⟨b,off,rfl,hb,hcl⟩:=hcell (by omega)
   have hck:=hcl k hlt;have hlt1:(k:Int)<(zs.length:Int):=by omega
   have ik1:(0:Int)≤(k:Int):=by omega
   have HM:=Lib.hid (z5X hlt);have HS:=Lib.hid (fun hne=>XW hlt HT.out hne);clear hcl hcell;generalize zs.getD k 0=y at*
   by_cases he:y=x
   ·have e1:(y==x)=true:=by simp[he]
    have HX:Hid (decide (x∈zs)=true):=Lib.hid (by rw[←he];simpa using HM.out);clear he;go_wp2;go_ret
    exact⟨za HX.out.symm,rfl⟩
   ·have e1:(y==x)=false:=by simp[he]
    have HX:=Lib.hid (HS.out he);clear he;go_wp2;go_round
    case rel=>exact⟨k+1,by omega,by go_num,HX⟩
    case measure=>simp[intOf];omega
  ·have hkk:zs.length≤k:=by omega
   have h:=HT.out;rw[List.take_of_length_le hkk] at h;have HX:Hid (decide (x∈zs)=false):=Lib.hid (by simpa using h);clear h hcell;go_wp2;go_ret
   exact⟨za HX.out.symm,rfl⟩
theorem z4d {ns ls:List Pr} (hw:zm ns ls=true):∃q:Nat,qH ns ls=q∧q<(zb ns ls).length :=by
 have hwin:=(zW hw).1;have hpos:=(zW hw).2;have hld:∀j:Nat,j<ls.length→zj ns (ndI ls j)=true:=fun j hj=>(hwin.2.2.2.2.2 j hj).1
 have hF:zb ns ls=zk ns ls:=by simp[zb,hw]
 obtain⟨k,hk,ha⟩:=z4q hld hpos;obtain⟨q,h1,h2,h3,h4⟩:=QH ns ls (zk ns ls) (zk ns ls).length 0 ⟨k,by omega,by omega,ha⟩;exact⟨q,by unfold qH z4J;rw[hF];exact h1,by rw[hF];omega⟩
theorem J2 {ns ls:List Pr} {q:Nat} (h:qH ns ls=q):∀k,(facL ns ls k).length +(if q<k then 1 else 0)=k
 |0=>by simp[facL]
 |k+1=>by
  have ih:=J2 h k
  by_cases e:k=q
  ·subst e
   rw[xQ h.symm];rw[if_neg (by omega)] at ih;rw[if_pos (by omega)];omega
  ·rw[Z1 (by rw[h];omega),List.length_append,List.length_singleton]
   by_cases e2:q<k
   ·rw[if_pos e2] at ih
    rw[if_pos (by omega)];omega
   ·rw[if_neg e2] at ih
    rw[if_neg (by omega)];omega
theorem z4j {ns ls:List Pr} (hw:zm ns ls=true):(ordW ns ls).length +1=(zb ns ls).length :=by
 obtain⟨q,h1,h2⟩:=z4d hw;have:=J2 h1 (zb ns ls).length;rw[if_pos h2] at this;unfold ordW;rw[k5];exact this
theorem z2e {ns ls:List Pr} {f:Int} (h:jB ns ls f=true):zm ns ls=true∧∃k:Nat,f=k∧k<(zb ns ls).length ∧k∈ordW ns ls:=by
 unfold jB at h;rw[Bool.and_eq_true,Bool.and_eq_true,decide_eq_true_eq] at h;obtain⟨h1,_,h3⟩:=h
 cases hin:inB f 0 (((zb ns ls).length :Int) -1)
 ·rw[vy hin] at h1;simp at h1
 ·obtain⟨k,rfl⟩:∃k:Nat,f=k:=⟨f.toNat,by have:=zt.1 hin;omega⟩
  have hk:k<(zb ns ls).length :=by have:=zt.1 hin;omega
  have hw:zm ns ls=true:=by
   cases hq:zm ns ls
   ·unfold zb at hk;rw[hq] at hk;simp at hk
   ·rfl
  refine⟨hw,k,rfl,hk,?_⟩
  unfold ordW;rw[J3];unfold facL;rw[List.mem_filter,List.mem_range];exact⟨hk,by simpa using h3⟩
theorem z65 {l:List Dp}:qW l=true↔l.length≤40∧(∀d∈l,inB d.k 1 200=true∧inB d.a 1 50=true∧inB d.b 0 9999=true)∧l.Pairwise (fun d e=>d.b≤e.b∧d.k≠e.k):=by
 rw[jY]
 have hdep:∀i,i<l.length→(depB l i=true↔(inB (dpI l i).k 1 200=true∧inB (dpI l i).a 1 50=true∧inB (dpI l i).b 0 9999=true)∧(i=0∨(dpI l (i -1)).b ≤(dpI l i).b)∧∀j,j<i→¬(dpI l j).k =(dpI l i).k):=by
  intro i hi;unfold depB qc;simp only[Bool.and_eq_true,Bool.or_eq_true,decide_eq_true_eq,List.all_eq_true,List.mem_range]
  constructor
  ·rintro⟨a,b,c,d,e⟩;exact⟨⟨a,b,c⟩,d,e⟩
  ·rintro⟨⟨a,b,c⟩,d,e⟩;exact⟨a,b,c,d,e⟩
 constructor
 ·rintro⟨h1,h2⟩
  refine⟨h1,?_,?_⟩
  ·intro d hd
   obtain⟨i,hi,e⟩:=List.getElem_of_mem hd;have:=((hdep i hi).1 (h2 i hi)).1;rw[jr hi,e] at this;exact this
  ·rw[List.pairwise_iff_getElem]
   have mono:∀k i,i+k<l.length→(dpI l i).b ≤(dpI l (i+k)).b :=by
    intro k
    induction k with
    |zero=>intro i _;exact Int.le_refl _
    |succ k ih=>
     intro i hik;have h3:=ih i (by omega);have h4:=((hdep (i+(k+1)) hik).1 (h2 _ hik)).2.1
     have h5:(dpI l (i+k)).b ≤(dpI l (i+(k+1))).b :=by
      rcases h4 with h4|h4
      ·omega
      ·rw[show i+(k+1) -1=i+k by omega] at h4;exact h4
     omega
   intro i j hi hj hij;have h6:=mono (j -i) i (by omega);have h7:=((hdep j hj).1 (h2 j hj)).2.2 i hij;rw[show i+(j -i)=j by omega,jr hi,jr hj] at h6;rw[jr hi,jr hj] at h7;exact⟨h6,h7⟩
 ·rintro⟨h1,h2,h3⟩
  rw[List.pairwise_iff_getElem] at h3;refine⟨h1,fun i hi=>?_⟩
  rw[hdep i hi];refine⟨?_,?_,?_⟩
  ·rw[jr hi];exact h2 _ (List.getElem_mem hi)
  ·by_cases e:i=0
   ·exact .inl e
   ·right
    rw[jr hi,jr (show i -1<l.length by omega)];exact(h3 (i -1) i (by omega) hi (by omega)).1
  ·intro j hj
   rw[jr hi,jr (show j<l.length by omega)];exact(h3 j i (by omega) hi hj).2
theorem z3P {S:St}:q8 S=true↔okD S.D=true∧qW S.ds=true∧inB S.fund 0 1000000=true∧(S.cs.length=0∨qL S.D.nn S.D.nl S.cs=true)∧(S.ds.length=0∨zm S.D.nn S.D.nl=true)∧∀d∈S.ds,d.k≤yh S.D.nn S.D.nl:=by
 unfold q8;simp only[Bool.and_eq_true,Bool.or_eq_true,decide_eq_true_eq,List.all_eq_true]
def adpB (l:List Dp) (d:Dp):Bool:=qW l&&qW (l++[d])
def adpL (l:List Dp) (d:Dp):List Dp:=if adpB l d=true then l++[d] else l
def dayN (l:List Dp):Int:=if l.length=0 then 0 else(dpI l (l.length -1)).b +1
noncomputable def z28 (S:St) (f c:Int):Dp:=⟨numN S.D.nn S.D.nl f.toNat,c,dayN S.ds⟩
noncomputable def stoB (S:St) (f c:Int):Bool:=q8 S&&(jB S.D.nn S.D.nl f&&adpB S.ds (z28 S f c))
noncomputable def stoS (S:St) (f c:Int):St:=if stoB S f c=true then⟨S.D,S.cs,S.ds++[z28 S f c],S.fund⟩ else S
theorem Jv (S:St) (f c:Int) (h:StLe S):y9 (stoS S f c)≤30000000:=by
 unfold stoS
 split
 ·rename_i hc
  unfold stoB adpB at hc;rw[Bool.and_eq_true,Bool.and_eq_true,Bool.and_eq_true] at hc;obtain⟨h0,hp,_,hd⟩:=hc;have h1:=h.D.cnt;have h2:=(jY.1 hd).1;have h3:=h.cs
  show cntD S.D+S.cs.length+3*(S.ds++[z28 S f c]).length ≤_
  omega
 ·exact h.cnt
end Go.Proofs.YtnjcpljhmhdhkaaGreat
