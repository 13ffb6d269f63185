/- part 41 -/
import Derived.Test.YtnjcpljhmhdhkaaGreatTPk40
set_option linter.unusedSimpArgs false
set_option linter.unusedVariables false
namespace Go.Proofs.YtnjcpljhmhdhkaaGreat
def Xp (p:Pr):Int:=42*p.1+2*p.2
theorem z1C {p q:Pr} (hp:j9 p=true) (hq:j9 q=true) (h:Xp p=Xp q):p=q:=by
 have h1:=zr hp;have h2:=zr hq;unfold Xp at h;exact Prod.ext (by omega) (by omega)
theorem jm {ns ls:List Pr} (h:q7 ns ls) {j:Nat} (hj:j<ls.length):zj ns (ndI ls j)=true:=(h.2.2.2.2.2 j hj).1
theorem z3e {ns ls:List Pr} (h:q7 ns ls) {i j:Nat} (hi:i<ls.length) (hj:j<ls.length) (hne:i≠j):qs ns (ndI ls i) (ndI ls j)=false:=by
 rcases Nat.lt_or_gt_of_ne hne with h1|h1
 ·rw[kx];exact(h.2.2.2.2.2 j hj).2.1 i h1
 ·exact(h.2.2.2.2.2 i hi).2.1 j h1
theorem z5W {ns ls:List Pr} (h:q7 ns ls) {j v:Nat} (hj:j<ls.length) (hv:v<ns.length) (h1:(v:Int)≠(ndI ls j).1) (h2:(v:Int)≠(ndI ls j).2):onB ns (ndI ls j) (ndI ns v)=false:=
 (h.2.2.2.2.2 j hj).2.2 v hv h1 h2
theorem z4y (a b c d:Int):prB a b c d=prB c d a b:=by
 unfold prB
 congr 1<;>(rw[Bool.eq_iff_iff];simp;exact⟨fun h=>h.symm,fun h=>h.symm⟩)
theorem Qq (a b c:Pr):zN b a c= -zN a b c:=by unfold zN zK;grind
theorem yy (a b c:Pr):zN a c b= -zN a b c:=by unfold zN zK;grind
theorem XE (x y:Int):mn2 x y=mn2 y x:=by rw[xv,xv];omega
theorem XO (x y:Int):mx2 x y=mx2 y x:=by rw[vh,vh];omega
theorem Qh (a b c:Pr):j8 b a c=j8 a b c:=by
 have ht:(zK b.1 b.2 a.1 a.2 c.1 c.2==0)=(zK a.1 a.2 b.1 b.2 c.1 c.2==0):=by
  have:=Qq a b c;unfold zN at this;rw[this,Bool.eq_iff_iff];simp
 unfold j8 jQ;rw[ht,z4y b.1 b.2 a.1 a.2,XE b.1 a.1,XO b.1 a.1,XE b.2 a.2,XO b.2 a.2]
 cases zf b.1 b.2<;>cases zf a.1 a.2<;>cases zf c.1 c.2<;>cases prB a.1 a.2 b.1 b.2<;>cases prB a.1 a.2 c.1 c.2<;>cases prB b.1 b.2 c.1 c.2<;>simp
theorem kq (a b c d:Pr):jf b a c d=jf a b c d:=by
 unfold jf;rw[Qq a b c,Qq a b d,Qh a b c,Qh a b d,Int.neg_mul_neg,Int.mul_comm (zN c d b)]
 cases qd b c<;>cases qd a d<;>cases qd b d<;>cases qd a c<;>cases j8 c d a<;>cases j8 c d b<;>simp
theorem QP (a b c d:Pr):jf a b d c=jf a b c d:=by
 rw[kd,kq,kd]
theorem Int.mul_sign_pos {k t u v:Int} (hk:0<k) (h:k*t=u*v) (hu:0<u) (hv:0<v):0<t:=by
 apply Classical.byContradiction
 intro ht;have h1:=Int.mul_pos hu hv;have h2:=Int.mul_nonneg (Int.le_of_lt hk) (show 0≤ -t by omega);rw[Int.mul_neg] at h2;omega
theorem Int.mul_sign_neg {k t u v:Int} (hk:0<k) (h:k*t=u*v) (hu:0<u) (hv:v<0):t<0:=by
 have:=Int.mul_sign_pos (t:= -t) (v:= -v) hk (by rw[Int.mul_neg,Int.mul_neg,h]) hu (by omega);omega
theorem Int.mul_sign_zero {k t u:Int} (hk:0<k) (h:k*t=u*0):t=0:=by
 rw[Int.mul_zero] at h
 rcases Int.mul_eq_zero.1 h with h1|h1
 ·omega
 ·exact h1
theorem xH {a b c:Pr} (ha:j9 a=true) (hb:j9 b=true) (hc:j9 c=true) (h1:Xp a<Xp c) (h2:Xp c<Xp b) (ht:zN a b c=0):j8 a b c=true:=by
 have hab:a≠b:=fun e=>by subst e;omega
 have hac:a≠c:=fun e=>by subst e;omega
 have hbc:b≠c:=fun e=>by subst e;omega
 have e1:(Xp c -Xp a)*(b.1 -a.1)=(Xp b -Xp a)*(c.1 -a.1):=by unfold zN zK at ht;unfold Xp;grind
 have e2:(Xp c -Xp a)*(b.2 -a.2)=(Xp b -Xp a)*(c.2 -a.2):=by unfold zN zK at ht;unfold Xp;grind
 have key:∀u v:Int,(Xp c -Xp a)*u=(Xp b -Xp a)*v→(0≤v∧v≤u)∨(u≤v∧v≤0):=by
  intro u v e;have hU:0<Xp c -Xp a:=by omega
  have hW:0<Xp b -Xp a:=by omega
  have hV:0<Xp b -Xp c:=by omega
  have e':(Xp b -Xp a)*(u -v)=(Xp b -Xp c)*u:=by grind
  rcases Int.lt_trichotomy u 0 with hu|hu|hu
  ·have s1:=Int.mul_sign_neg hW e.symm hU hu
   have s2:=Int.mul_sign_neg hW e' hV hu
   right;omega
  ·subst hu
   have s1:=Int.mul_sign_zero hW e.symm
   left;omega
  ·have s1:=Int.mul_sign_pos hW e.symm hU hu
   have s2:=Int.mul_sign_pos hW e' hV hu
   left;omega
 have k1:=key _ _ e1;have k2:=key _ _ e2;have n1:prB a.1 a.2 b.1 b.2=false:=vY.2 hab;have n2:prB a.1 a.2 c.1 c.2=false:=vY.2 hac;have n3:prB b.1 b.2 c.1 c.2=false:=vY.2 hbc;have ht':zK a.1 a.2 b.1 b.2 c.1 c.2=0:=ht;unfold j9 at ha hb hc;unfold j8 jQ;rw[ha,hb,hc,n1,n2,n3,ht'];simp only[xv,vh,inB,Bool.and_true,Bool.true_and,Bool.not_false,beq_self_eq_true,Bool.and_eq_true,decide_eq_true_eq]
 omega
def ptN (ns:List Pr) (v:Nat):Pr:=ndI ns v
def lN (ns ls:List Pr) (j:Nat):Nat:=if Xp (ndI ns (zd ls (2*j)))<Xp (ndI ns (dTo ls (2*j))) then(zd ls (2*j)).toNat else(dTo ls (2*j)).toNat
def rN (ns ls:List Pr) (j:Nat):Nat:=if Xp (ndI ns (zd ls (2*j)))<Xp (ndI ns (dTo ls (2*j))) then(dTo ls (2*j)).toNat else(zd ls (2*j)).toNat
def fwD (ns ls:List Pr) (d:Nat):Bool:=decide (Xp (ndI ns (zd ls d))<Xp (ndI ns (dTo ls d)))
theorem xC (ls:List Pr) (j:Nat):zd ls (2*j)=(ndI ls j).1:=by
 unfold zd;rw[if_neg (by omega),show 2*j/2=j by omega]
theorem XH (ls:List Pr) (j:Nat):dTo ls (2*j)=(ndI ls j).2:=by
 unfold dTo;rw[if_neg (by omega),show 2*j/2=j by omega]
theorem z2a (ls:List Pr) (j:Nat):zd ls (2*j+1)=(ndI ls j).2:=by
 unfold zd;rw[if_pos (by omega),show(2*j+1)/2=j by omega]
theorem z5I (ls:List Pr) (j:Nat):dTo ls (2*j+1)=(ndI ls j).1:=by
 unfold dTo;rw[if_pos (by omega),show(2*j+1)/2=j by omega]
section
variable {ns ls:List Pr} (h:q7 ns ls)
include h
theorem qB {v:Nat} (hv:v<ns.length):j9 (ptN ns v)=true:=jn h.2.2.2.1 v hv
theorem z2d {u v:Nat} (hu:u<ns.length) (hv:v<ns.length) (he:Xp (ptN ns u)=Xp (ptN ns v)):u=v:=by
 have e:=z1C (qB h hu) (qB h hv) he
 apply Classical.byContradiction
 intro hne
 rcases Nat.lt_or_gt_of_ne hne with h1|h1
 ·exact vY.1 (h.2.2.2.2.1 u v h1 hv) e
 ·exact vY.1 (h.2.2.2.2.1 v u h1 hu) e.symm
theorem zG {j:Nat} (hj:j<ls.length):lN ns ls j<ns.length∧rN ns ls j<ns.length∧Xp (ptN ns (lN ns ls j))<Xp (ptN ns (rN ns ls j))∧
  ((zd ls (2*j)=(lN ns ls j:Int)∧dTo ls (2*j)=(rN ns ls j:Int)∧fwD ns ls (2*j)=true∧fwD ns ls (2*j+1)=false)∨
   (zd ls (2*j)=(rN ns ls j:Int)∧dTo ls (2*j)=(lN ns ls j:Int)∧fwD ns ls (2*j)=false∧fwD ns ls (2*j+1)=true)):=by
 have hl:=zR.1 (jm h hj);have ef:=xC ls j;have et:=XH ls j;have ef':=z2a ls j;have et':=z5I ls j;obtain⟨p,hp⟩:∃p:Nat,(ndI ls j).1=p:=⟨(ndI ls j).1.toNat,by omega⟩;obtain⟨q,hq⟩:∃q:Nat,(ndI ls j).2=q:=⟨(ndI ls j).2.toNat,by omega⟩;rw[hp,hq] at hl;rw[hp] at ef et';rw[hq] at et ef';have hpq:p≠q:=by omega
 have hx:Xp (ndI ns p)≠Xp (ndI ns q):=fun e=>hpq (z2d h (by omega) (by omega) e)
 unfold lN rN fwD ptN;rw[ef,et,ef',et']
 by_cases hc:Xp (ndI ns p)<Xp (ndI ns q)
 ·rw[if_pos hc,if_pos hc,Int.toNat_natCast,Int.toNat_natCast]
  exact⟨by omega,by omega,hc,.inl ⟨rfl,rfl,by simpa using hc,by simp;omega⟩⟩
 ·rw[if_neg hc,if_neg hc,Int.toNat_natCast,Int.toNat_natCast]
  exact⟨by omega,by omega,by omega,.inr ⟨rfl,rfl,by simp;omega,by simp;omega⟩⟩
theorem z05 {i j:Nat} (hi:i<ls.length) (hj:j<ls.length) (hne:i≠j):jf (ptN ns (lN ns ls i)) (ptN ns (rN ns ls i)) (ptN ns (lN ns ls j)) (ptN ns (rN ns ls j))=false:=by
 have hc:=z3e h hi hj hne;unfold qs at hc;rw[jm h hi,jm h hj] at hc;simp only[Bool.true_and] at hc
 rw[←xC ls i,←XH ls i,←xC ls j,←XH ls j] at hc;obtain⟨_,_,_,h1⟩:=zG h hi;obtain⟨_,_,_,h2⟩:=zG h hj;unfold ptN
 rcases h1 with ⟨e1,e2,_⟩|⟨e1,e2,_⟩<;>rcases h2 with ⟨e3,e4,_⟩|⟨e3,e4,_⟩<;>rw[e1,e2,e3,e4] at hc
 ·exact hc
 ·rw[QP] at hc;exact hc
 ·rw[kq] at hc;exact hc
 ·rw[kq,QP] at hc;exact hc
end
theorem comden (f:Nat→Int):∀m,(∀j,j<m→0<f j)→∃P:Int,0<P∧∀j,j<m→∃q,q*f j=P
 |0,_=>⟨1,by omega,fun j hj=>absurd hj (by omega)⟩
 |m+1,hf=>by
  obtain⟨P,h1,h2⟩:=comden f m (fun j hj=>hf j (by omega));have h3:=hf m (by omega);refine⟨P*f m,Int.mul_pos h1 h3,fun j hj=>?_⟩
  by_cases he:j=m
  ·subst he;exact⟨P,rfl⟩
  ·obtain⟨q,hq⟩:=h2 j (by omega)
   exact⟨q*f m,by rw[←hq];grind⟩
def Hts (ns ls:List Pr) (P:Int) (A B:Nat→Int):Prop:=
 0<P∧∀j,j<ls.length→A j*Xp (ptN ns (lN ns ls j))+B j=P*(ptN ns (lN ns ls j)).2∧A j*Xp (ptN ns (rN ns ls j))+B j=P*(ptN ns (rN ns ls j)).2
theorem z5V {ns ls:List Pr} (h:q7 ns ls):∃P A B,Hts ns ls P A B:=by
 obtain⟨P,hP,hq⟩:=comden (fun j=>Xp (ptN ns (rN ns ls j)) -Xp (ptN ns (lN ns ls j))) ls.length (fun j hj=>by have:=(zG h hj).2.2.1;omega)
 have hq':∀j,∃q:Int,j<ls.length→q*(Xp (ptN ns (rN ns ls j)) -Xp (ptN ns (lN ns ls j)))=P:=by
  intro j
  by_cases hj:j<ls.length
  ·obtain⟨q,e⟩:=hq j hj;exact⟨q,fun _=>e⟩
  ·exact⟨0,fun h=>absurd h hj⟩
 let q:Nat→Int:=fun j=>(hq' j).choose
 have hqs:∀j,j<ls.length→q j*(Xp (ptN ns (rN ns ls j)) -Xp (ptN ns (lN ns ls j)))=P:=fun j=>(hq' j).choose_spec
 refine⟨P,fun j=>q j*((ptN ns (rN ns ls j)).2 -(ptN ns (lN ns ls j)).2),fun j=>P*(ptN ns (lN ns ls j)).2 -q j*((ptN ns (rN ns ls j)).2 -(ptN ns (lN ns ls j)).2)*Xp (ptN ns (lN ns ls j)),hP,fun j hj=>?_⟩
 have e:=hqs j hj;generalize q j=Q at*
 constructor
 ·grind
 ·rw[←e];grind
def dH (A B:Nat→Int) (i j:Nat) (X:Int):Int:=(A i*X+B i) -(A j*X+B j)
theorem jJ (A B:Nat→Int) (i j:Nat) (X:Int):dH A B j i X= -dH A B i j X:=by unfold dH;omega
theorem z5Y (A B:Nat→Int) (i j k:Nat) (X:Int):dH A B i k X=dH A B i j X+dH A B j k X:=by unfold dH;omega
theorem z1E (A B:Nat→Int) (i j:Nat) (X Y Z:Int):(Z -X)*dH A B i j Y=(Z -Y)*dH A B i j X+(Y -X)*dH A B i j Z:=by unfold dH;grind
theorem z4U (A B:Nat→Int) (i j:Nat) (X Z:Int):(A i -A j)*(Z -X)=dH A B i j Z -dH A B i j X:=by unfold dH;grind
theorem J1 {A B:Nat→Int} {i j:Nat} {X Y Z:Int} (h1:X<Y) (h2:Y<Z) (hx:dH A B i j X≤0) (hz:dH A B i j Z≤0) (hn:dH A B i j X+dH A B i j Z<0):dH A B i j Y<0:=by
 have e:=z1E A B i j X Y Z;generalize dH A B i j X=a at*;generalize dH A B i j Y=b at*;generalize dH A B i j Z=c at*;have m1:=Int.mul_nonneg (show 0≤Z -Y by omega) (show 0≤ -a by omega);have m2:=Int.mul_nonneg (show 0≤Y -X by omega) (show 0≤ -c by omega);rw[Int.mul_neg] at m1 m2
 apply Classical.byContradiction
 intro hb;have m3:=Int.mul_nonneg (show 0≤Z -X by omega) (show 0≤b by omega);have z1:(Z -Y)*a=0:=by omega
 have z2:(Y -X)*c=0:=by omega
 rcases Int.mul_eq_zero.1 z1 with h3|h3<;>rcases Int.mul_eq_zero.1 z2 with h4|h4<;>omega
theorem z2F {A B:Nat→Int} {i j:Nat} {X Z:Int} (h1:X<Z) (hx:0<dH A B i j X) (hz:dH A B i j Z<0):(∀Y,Y≤X→0<dH A B i j Y)∧(∀Y,Z≤Y→dH A B i j Y<0):=by
 constructor
 ·intro Y hY
  have e:=z1E A B i j Y X Z;generalize dH A B i j X=a at*;generalize dH A B i j Y=b at*;generalize dH A B i j Z=c at*;have m1:=Int.mul_pos (show 0<Z -Y by omega) hx;have m2:=Int.mul_nonneg (show 0≤X -Y by omega) (show 0≤ -c by omega);rw[Int.mul_neg] at m2;exact Int.mul_sign_pos (show 0<Z -X by omega) (show(Z -X)*b=1*((Z -X)*b) by omega) (by omega) (by omega)
 ·intro Y hY
  have e:=z1E A B i j X Z Y;generalize dH A B i j X=a at*;generalize dH A B i j Y=b at*;generalize dH A B i j Z=c at*;have m1:=Int.mul_pos (show 0<Y -X by omega) (show 0< -c by omega);have m2:=Int.mul_nonneg (show 0≤Y -Z by omega) (show 0≤a by omega);rw[Int.mul_neg] at m1;exact Int.mul_sign_neg (show 0<Z -X by omega) (show(Z -X)*b=1*((Z -X)*b) by omega) (by omega) (by omega)
theorem jq {ns ls:List Pr} {P:Int} {A B:Nat→Int} (hh:Hts ns ls P A B) {j:Nat} (hj:j<ls.length) (q:Pr):(P*42)*zN (ptN ns (lN ns ls j)) (ptN ns (rN ns ls j)) q=(Xp (ptN ns (rN ns ls j)) -Xp (ptN ns (lN ns ls j)))*(P*q.2 -(A j*Xp q+B j)):=by
 obtain⟨e1,e2⟩:=hh.2 j hj;unfold zN zK;unfold Xp at*
 grind
section
variable {ns ls:List Pr} {P:Int} {A B:Nat→Int} (h:q7 ns ls) (hh:Hts ns ls P A B)
include h hh
theorem z4r {i j:Nat} (hi:i<ls.length) (hj:j<ls.length) (hne:i≠j) {lo hi':Int} (hlo:lo=max (Xp (ptN ns (lN ns ls i))) (Xp (ptN ns (lN ns ls j)))) (hhi:hi'=min (Xp (ptN ns (rN ns ls i))) (Xp (ptN ns (rN ns ls j)))) (hlt:lo<hi'):
  (0≤dH A B i j lo∧0≤dH A B i j hi'∧0<dH A B i j lo+dH A B i j hi')∨(dH A B i j lo≤0∧dH A B i j hi'≤0∧dH A B i j lo+dH A B i j hi'<0):=by
 have hx:=z05 h hi hj hne;have Ei:=zG h hi;have Ej:=zG h hj;have na:=qB h Ei.1;have nb:=qB h Ei.2.1;have nc:=qB h Ej.1;have nd:=qB h Ej.2.1;have xi:=Ei.2.2.1;have xj:=Ej.2.2.1;clear Ei Ej;obtain⟨a1,b1⟩:=hh.2 i hi;obtain⟨c1,d1⟩:=hh.2 j hj;have t1:=jq hh hj (ptN ns (lN ns ls i));have t2:=jq hh hj (ptN ns (rN ns ls i));have t3:=jq hh hi (ptN ns (lN ns ls j));have t4:=jq hh hi (ptN ns (rN ns ls j));have hP:=hh.1;generalize ptN ns (lN ns ls i)=a at*;generalize ptN ns (rN ns ls i)=b at*;generalize ptN ns (lN ns ls j)=c at*;generalize ptN ns (rN ns ls j)=d at*;have hP42:0<P*42:=by omega
 rw[←a1,show A i*Xp a+B i -(A j*Xp a+B j)=dH A B i j (Xp a) from rfl] at t1;rw[←b1,show A i*Xp b+B i -(A j*Xp b+B j)=dH A B i j (Xp b) from rfl] at t2;rw[←c1,show A j*Xp c+B j -(A i*Xp c+B i)=dH A B j i (Xp c) from rfl,jJ] at t3;rw[←d1,show A j*Xp d+B j -(A i*Xp d+B i)=dH A B j i (Xp d) from rfl,jJ] at t4;have hxi:0<Xp b -Xp a:=by omega
 have hxj:0<Xp d -Xp c:=by omega
 have cr:∀ {x y z u:Int},zN c d a=x→zN c d b=y→zN a b c=z→zN a b d=u→¬(x*y<0∧z*u<0):=by
  intro x y z u e1 e2 e3 e4 hc;subst e1 e2 e3 e4;have:jf a b c d=true:=by unfold jf;simp[hc.1,hc.2]
  rw[this] at hx;cases hx
 by_cases h1:0<dH A B i j lo
 ·by_cases h2:dH A B i j hi'<0
  ·exfalso
   obtain⟨f1,f2⟩:=z2F hlt h1 h2;have s1:=Int.mul_sign_pos hP42 t1 hxj (f1 _ (by omega));have s2:=Int.mul_sign_neg hP42 t2 hxj (f2 _ (by omega));have s3:=Int.mul_sign_neg hP42 t3 hxi (by have:=f1 (Xp c) (by omega);omega);have s4:=Int.mul_sign_pos hP42 t4 hxi (by have:=f2 (Xp d) (by omega);omega);exact cr rfl rfl rfl rfl ⟨Int.mul_neg_of_pos_of_neg s1 s2,Int.mul_neg_of_neg_of_pos s3 s4⟩
  ·left;omega
 ·by_cases h1':dH A B i j lo<0
  ·by_cases h2:0<dH A B i j hi'
   ·exfalso
    obtain⟨f1,f2⟩:=z2F (A:=A) (B:=B) (i:=j) (j:=i) hlt (by rw[jJ];omega) (by rw[jJ];omega);have s1:=Int.mul_sign_neg hP42 t1 hxj (by have:=f1 (Xp a) (by omega);rw[jJ] at this;omega);have s2:=Int.mul_sign_pos hP42 t2 hxj (by have:=f2 (Xp b) (by omega);rw[jJ] at this;omega);have s3:=Int.mul_sign_pos hP42 t3 hxi (by have:=f1 (Xp c) (by omega);rw[jJ] at this;omega);have s4:=Int.mul_sign_neg hP42 t4 hxi (by have:=f2 (Xp d) (by omega);rw[jJ] at this;omega);exact cr rfl rfl rfl rfl ⟨Int.mul_neg_of_neg_of_pos s1 s2,Int.mul_neg_of_pos_of_neg s3 s4⟩
   ·right;omega
  ·have z1:dH A B i j lo=0:=by omega
   by_cases z2:dH A B i j hi'=0
   ·exfalso
    have zz:∀Y,dH A B i j Y=0:=by
     have e:A i -A j=0:=by
      have h3:(A i -A j)*(hi' -lo)=0:=by rw[z4U,z1,z2];rfl
      rcases Int.mul_eq_zero.1 h3 with h4|h4<;>omega
     intro Y;have e':A i=A j:=by omega
     unfold dH at z1⊢;rw[e'] at z1⊢;omega
    rw[zz] at t1 t2 t3 t4;have u1:=Int.mul_sign_zero hP42 t1;have u2:=Int.mul_sign_zero hP42 t2;rw[Int.neg_zero] at t3 t4;have u3:=Int.mul_sign_zero hP42 t3;have u4:=Int.mul_sign_zero hP42 t4
    have bw:∀ {p:Bool},p=true→(p=j8 a b c∨p=j8 a b d∨p=j8 c d a∨p=j8 c d b)→False:=by
     intro p hp hq
     have:jf a b c d=true:=by
      unfold jf
      rcases hq with hq|hq|hq|hq<;>rw[←hq,hp]<;>simp
     rw[this] at hx;cases hx
    rcases Int.lt_trichotomy (Xp a) (Xp c) with g|g|g
    ·exact bw (xH na nb nc g (by omega) u3) (.inl rfl)
    ·have eac:=z1C na nc g
     subst eac
     rcases Int.lt_trichotomy (Xp b) (Xp d) with g2|g2|g2
     ·exact bw (xH nc nd nb (by omega) g2 u2) (.inr (.inr (.inr rfl)))
     ·have ebd:=z1C nb nd g2
      subst ebd
      have:jf a b a b=true:=by
       unfold jf;rw[jG.2 (rfl:a=a),jG.2 (rfl:b=b)];simp
      rw[this] at hx;cases hx
     ·exact bw (xH na nb nd (by omega) g2 u4) (.inr (.inl rfl))
    ·exact bw (xH nc nd na g (by omega) u1) (.inr (.inr (.inl rfl)))
   ·by_cases h3:0<dH A B i j hi'
    ·left;omega
    ·right;omega
end
namespace Swp
variable {m n:Nat} (S:Swp m n)
structure Ring (s:Nat) (U:Nat→Prop) (R up:Nat→Bool) (ld:Nat→Nat) (bf:Nat→Nat→Prop):Prop where
 lt:∀e,U e→ld e<m
 ra:∀e,U e→R e=true→S.a (ld e)=s
 lb:∀e,U e→R e=false→S.b (ld e)=s
 allR:∀k,k<m→S.a k=s→∃e,U e∧R e=true∧ld e=k
 allL:∀k,k<m→S.b k=s→∃e,U e∧R e=false∧ld e=k
 one:∀d e,U d→U e→R d=R e→ld d=ld e→d=e
 du:∀d e,U d→U e→R d=R e→up d=false→up e=true→S.Bel (ld d) (ld e)
 bfRR:∀d e,U d→U e→R d=true→R e=true→(bf d e↔(up d=true∧up e=false)∨(up d=up e∧S.Bel (ld d) (ld e)))
 bfLL:∀d e,U d→U e→R d=false→R e=false→(bf d e↔(up d=true∧up e=false)∨(up d=up e∧S.Bel (ld e) (ld d)))
 bfRL:∀d e,U d→U e→R d=true→R e=false→(bf d e↔up d=true)
 bfLR:∀d e,U d→U e→R d=false→R e=true→(bf d e↔up e=false)
variable {s:Nat} {U:Nat→Prop} {R up:Nat→Bool} {ld:Nat→Nat} {bf:Nat→Nat→Prop}
theorem ring_asym (h:S.Ring s U R up ld bf) {d e:Nat} (hd:U d) (he:U e) (hr:R d=R e) (h1:S.Bel (ld d) (ld e)) (h2:S.Bel (ld e) (ld d)):False:=by
 cases hR:R e
 ·have c1:S.Cr s (ld d):=(S.cr_left (h.lt d hd)).2 (.inr (.inl (h.lb d hd (hr.trans hR))))
  have c2:S.Cr s (ld e):=(S.cr_left (h.lt e he)).2 (.inr (.inl (h.lb e he hR)));exact S.asym (h.lt d hd) (h.lt e he) c1 c2 h1 h2
 ·have c1:S.Cr (s+1) (ld d):=(S.cr_right (h.lt d hd)).2 (.inr (.inl (h.ra d hd (hr.trans hR))))
  have c2:S.Cr (s+1) (ld e):=(S.cr_right (h.lt e he)).2 (.inr (.inl (h.ra e he hR)));exact S.asym (h.lt d hd) (h.lt e he) c1 c2 h1 h2
theorem ring_tot (h:S.Ring s U R up ld bf) {d e:Nat} (hd:U d) (he:U e) (hr:R d=R e) (hne:d≠e):S.Bel (ld d) (ld e)∨S.Bel (ld e) (ld d):=by
 have hne':ld d≠ld e:=fun hc=>hne (h.one d e hd he hr hc)
 cases hR:R e
 ·have c1:S.Cr s (ld d):=(S.cr_left (h.lt d hd)).2 (.inr (.inl (h.lb d hd (hr.trans hR))))
  have c2:S.Cr s (ld e):=(S.cr_left (h.lt e he)).2 (.inr (.inl (h.lb e he hR)));exact S.tot s _ _ (h.lt d hd) (h.lt e he) c1.1 c1.2 c2.1 c2.2 hne'
 ·have c1:S.Cr (s+1) (ld d):=(S.cr_right (h.lt d hd)).2 (.inr (.inl (h.ra d hd (hr.trans hR))))
  have c2:S.Cr (s+1) (ld e):=(S.cr_right (h.lt e he)).2 (.inr (.inl (h.ra e he hR)));exact S.tot (s+1) _ _ (h.lt d hd) (h.lt e he) c1.1 c1.2 c2.1 c2.2 hne'
theorem ring_trans (h:S.Ring s U R up ld bf) {d e f:Nat} (hd:U d) (he:U e) (hf:U f) (hr:R d=R f) (hr':R e=R f) (h1:S.Bel (ld d) (ld e)) (h2:S.Bel (ld e) (ld f)):S.Bel (ld d) (ld f):=by
 cases hR:R f
 ·have c1:S.Cr s (ld d):=(S.cr_left (h.lt d hd)).2 (.inr (.inl (h.lb d hd (hr.trans hR))))
  have c2:S.Cr s (ld e):=(S.cr_left (h.lt e he)).2 (.inr (.inl (h.lb e he (hr'.trans hR))));have c3:S.Cr s (ld f):=(S.cr_left (h.lt f hf)).2 (.inr (.inl (h.lb f hf hR)));exact S.trans s _ _ _ (h.lt d hd) (h.lt e he) (h.lt f hf) c1.1 c1.2 c2.1 c2.2 c3.1 c3.2 h1 h2
 ·have c1:S.Cr (s+1) (ld d):=(S.cr_right (h.lt d hd)).2 (.inr (.inl (h.ra d hd (hr.trans hR))))
  have c2:S.Cr (s+1) (ld e):=(S.cr_right (h.lt e he)).2 (.inr (.inl (h.ra e he (hr'.trans hR))));have c3:S.Cr (s+1) (ld f):=(S.cr_right (h.lt f hf)).2 (.inr (.inl (h.ra f hf hR)));exact S.trans (s+1) _ _ _ (h.lt d hd) (h.lt e he) (h.lt f hf) c1.1 c1.2 c2.1 c2.2 c3.1 c3.2 h1 h2
theorem bf_irr (h:S.Ring s U R up ld bf) {d:Nat} (hd:U d):¬bf d d:=by
 cases hR:R d
 ·rw[h.bfLL d d hd hd hR hR]
  rintro(⟨h1,h2⟩|⟨_,h1⟩)
  ·rw[h1] at h2;cases h2
  ·exact S.ring_asym h hd hd rfl h1 h1
 ·rw[h.bfRR d d hd hd hR hR]
  rintro(⟨h1,h2⟩|⟨_,h1⟩)
  ·rw[h1] at h2;cases h2
  ·exact S.ring_asym h hd hd rfl h1 h1
theorem bf_tot (h:S.Ring s U R up ld bf) {d e:Nat} (hd:U d) (he:U e) (hne:d≠e):bf d e∨bf e d:=by
 cases hR:R d<;>cases hR':R e<;>cases hu:up d<;>cases hu':up e
 all_goals simp only[h.bfLL _ _ hd he,h.bfLL _ _ he hd,h.bfRR _ _ hd he,h.bfRR _ _ he hd,h.bfRL _ _ hd he,h.bfRL _ _ he hd,h.bfLR _ _ hd he,h.bfLR _ _ he hd,hR,hR',hu,hu']
 all_goals simp
 all_goals first
  |exact S.ring_tot h hd he (hR.trans hR'.symm) hne
  |exact(S.ring_tot h hd he (hR.trans hR'.symm) hne).symm
theorem bf_trans (h:S.Ring s U R up ld bf) {d e f:Nat} (hd:U d) (he:U e) (hf:U f) (h1:bf d e) (h2:bf e f):bf d f:=by
 cases hR:R d<;>cases hR':R e<;>cases hR'':R f<;>cases hu:up d<;>cases hu':up e<;>cases hu'':up f
 all_goals simp only[h.bfLL _ _ hd he,h.bfLL _ _ he hf,h.bfLL _ _ hd hf,h.bfRR _ _ hd he,h.bfRR _ _ he hf,h.bfRR _ _ hd hf,h.bfRL _ _ hd he,h.bfRL _ _ he hf,h.bfRL _ _ hd hf,h.bfLR _ _ hd he,h.bfLR _ _ he hf,h.bfLR _ _ hd hf,hR,hR',hR'',hu,hu',hu''] at h1 h2⊢
 all_goals simp at h1 h2⊢
 all_goals first
  |exact S.ring_trans h hd he hf (hR.trans hR''.symm) (hR'.trans hR''.symm) h1 h2
  |exact S.ring_trans h hf he hd (hR''.trans hR.symm) (hR'.trans hR.symm) h2 h1
def Ahead (U:Nat→Prop) (bf:Nat→Nat→Prop) (f e:Nat):Prop:=
 (bf f e∧∀g,U g→¬(bf f g∧bf g e))∨((∀g,U g→¬bf g e)∧(∀g,U g→¬bf f g))
theorem ring_turn (h:S.Ring s U R up ld bf) {e f:Nat} (he:U e) (hf:U f) (ha:Ahead U bf f e):S.Turn s (!(R e)) (ld e) (R f) (ld f):=by
 have nL:∀ {P:Nat→Prop},(∀g,U g→R g=false→¬P (ld g))→∀i,i<m→S.b i=s→¬P i:=by
  intro P hP i hi hs hp;obtain⟨g,h1,h2,rfl⟩:=h.allL i hi hs;exact hP g h1 h2 hp
 have nR:∀ {P:Nat→Prop},(∀g,U g→R g=true→¬P (ld g))→∀i,i<m→S.a i=s→¬P i:=by
  intro P hP i hi hs hp;obtain⟨g,h1,h2,rfl⟩:=h.allR i hi hs;exact hP g h1 h2 hp
 have xR:(∀g,U g→R g=false)→∀i,i<m→S.a i≠s:=by
  intro hP i hi hs;obtain⟨g,h1,h2,rfl⟩:=h.allR i hi hs;rw[hP g h1] at h2;cases h2
 have xL:(∀g,U g→R g=true)→∀i,i<m→S.b i≠s:=by
  intro hP i hi hs;obtain⟨g,h1,h2,rfl⟩:=h.allL i hi hs;rw[hP g h1] at h2;cases h2
 have fg:∀g,U g→(R f=true→R g=true→(bf f g↔(up f=true∧up g=false)∨(up f=up g∧S.Bel (ld f) (ld g))))∧(R f=false→R g=false→(bf f g↔(up f=true∧up g=false)∨(up f=up g∧S.Bel (ld g) (ld f))))∧
   (R f=true→R g=false→(bf f g↔up f=true))∧(R f=false→R g=true→(bf f g↔up g=false)):=fun g hg=>
  ⟨fun a b=>h.bfRR f g hf hg a b,fun a b=>h.bfLL f g hf hg a b,fun a b=>h.bfRL f g hf hg a b,fun a b=>h.bfLR f g hf hg a b⟩
 have ge:∀g,U g→(R g=true→R e=true→(bf g e↔(up g=true∧up e=false)∨(up g=up e∧S.Bel (ld g) (ld e))))∧(R g=false→R e=false→(bf g e↔(up g=true∧up e=false)∨(up g=up e∧S.Bel (ld e) (ld g))))∧
   (R g=true→R e=false→(bf g e↔up g=true))∧(R g=false→R e=true→(bf g e↔up e=false)):=fun g hg=>
  ⟨fun a b=>h.bfRR g e hg he a b,fun a b=>h.bfLL g e hg he a b,fun a b=>h.bfRL g e hg he a b,fun a b=>h.bfLR g e hg he a b⟩
 have due:∀g,U g→R g=R e→(up g=false→up e=true→S.Bel (ld g) (ld e))∧(up e=false→up g=true→S.Bel (ld e) (ld g)):=fun g hg hr=>
  ⟨h.du g e hg he hr,h.du e g he hg hr.symm⟩
 have duf:∀g,U g→R g=R f→(up g=false→up f=true→S.Bel (ld g) (ld f))∧(up f=false→up g=true→S.Bel (ld f) (ld g)):=fun g hg hr=>
  ⟨h.du g f hg hf hr,h.du f g hf hg hr.symm⟩
 have ase:∀g,U g→R g=R e→¬(S.Bel (ld g) (ld e)∧S.Bel (ld e) (ld g)):=fun g hg hr hc=>S.ring_asym h hg he hr hc.1 hc.2
 have asf:∀g,U g→R g=R f→¬(S.Bel (ld g) (ld f)∧S.Bel (ld f) (ld g)):=fun g hg hr hc=>S.ring_asym h hg hf hr hc.1 hc.2
 cases hR:R e<;>cases hR':R f
 ·--both to the left
  rw[Bool.not_false];have hb:S.b (ld e)=s:=h.lb e he hR;have hb':S.b (ld f)=s:=h.lb f hf hR'
  by_cases hB:S.Bel (ld e) (ld f)
  ·refine .upL hb hb' hB ?_
   refine nL (P:=fun k=>S.Bel (ld e) k∧S.Bel k (ld f)) (fun g hg hr hc=>?_)
   have a1:=(fg g hg).2.1 hR' hr;have a2:=(ge g hg).2.1 hr hR;have a3:=due g hg (hr.trans hR.symm);have a4:=duf g hg (hr.trans hR'.symm);have a5:=ase g hg (hr.trans hR.symm);have a6:=asf g hg (hr.trans hR'.symm);have a7:=(fg e he).2.1 hR' hR;unfold Ahead at ha
   grind
  ·refine .backL hb hb' ?_ ?_ ?_
   ·refine nL (P:=fun k=>S.Bel (ld e) k) (fun g hg hr hc=>?_)
    have a1:=(fg g hg).2.1 hR' hr;have a2:=(ge g hg).2.1 hr hR;have a3:=due g hg (hr.trans hR.symm);have a4:=duf g hg (hr.trans hR'.symm);have a5:=ase g hg (hr.trans hR.symm);have a7:=(fg e he).2.1 hR' hR;have a8:=due f hf (hR'.trans hR.symm);unfold Ahead at ha
    grind
   ·refine nL (P:=fun k=>S.Bel k (ld f)) (fun g hg hr hc=>?_)
    have a1:=(fg g hg).2.1 hR' hr;have a2:=(ge g hg).2.1 hr hR;have a3:=due g hg (hr.trans hR.symm);have a4:=duf g hg (hr.trans hR'.symm);have a6:=asf g hg (hr.trans hR'.symm);have a7:=(fg e he).2.1 hR' hR;have a8:=due f hf (hR'.trans hR.symm);unfold Ahead at ha
    grind
   ·refine xR (fun g hg=>?_)
    cases hr:R g
    ·rfl
    ·exfalso
     have a1:=(fg g hg).2.2.2 hR' hr;have a2:=(ge g hg).2.2.1 hr hR;have a7:=(fg e he).2.1 hR' hR;have a8:=due f hf (hR'.trans hR.symm);unfold Ahead at ha
     grind
 ·rw[Bool.not_false]
  have hb:S.b (ld e)=s:=h.lb e he hR;have hb':S.a (ld f)=s:=h.ra f hf hR';refine .over hb hb' ?_ ?_
  ·refine nL (P:=fun k=>S.Bel (ld e) k) (fun g hg hr hc=>?_)
   have a1:=(fg g hg).2.2.1 hR' hr;have a2:=(ge g hg).2.1 hr hR;have a3:=due g hg (hr.trans hR.symm);have a5:=ase g hg (hr.trans hR.symm);have a7:=(fg e he).2.2.1 hR' hR;unfold Ahead at ha
   grind
  ·refine nR (P:=fun k=>S.Bel (ld f) k) (fun g hg hr hc=>?_)
   have a1:=(fg g hg).1 hR' hr;have a2:=(ge g hg).2.2.1 hr hR;have a4:=duf g hg (hr.trans hR'.symm);have a6:=asf g hg (hr.trans hR'.symm);have a7:=(fg e he).2.2.1 hR' hR;unfold Ahead at ha
   grind
 ·rw[Bool.not_true]
  have hb:S.a (ld e)=s:=h.ra e he hR;have hb':S.b (ld f)=s:=h.lb f hf hR';refine .under hb hb' ?_ ?_
  ·refine nR (P:=fun k=>S.Bel k (ld e)) (fun g hg hr hc=>?_)
   have a1:=(fg g hg).2.2.2 hR' hr;have a2:=(ge g hg).1 hr hR;have a3:=due g hg (hr.trans hR.symm);have a5:=ase g hg (hr.trans hR.symm);have a7:=(fg e he).2.2.2 hR' hR;unfold Ahead at ha
   grind
  ·refine nL (P:=fun k=>S.Bel k (ld f)) (fun g hg hr hc=>?_)
   have a1:=(fg g hg).2.1 hR' hr;have a2:=(ge g hg).2.2.2 hr hR;have a4:=duf g hg (hr.trans hR'.symm);have a6:=asf g hg (hr.trans hR'.symm);have a7:=(fg e he).2.2.2 hR' hR;unfold Ahead at ha
   grind
 ·rw[Bool.not_true]
  have hb:S.a (ld e)=s:=h.ra e he hR;have hb':S.a (ld f)=s:=h.ra f hf hR'
  by_cases hB:S.Bel (ld f) (ld e)
  ·refine .downR hb hb' hB ?_
   refine nR (P:=fun k=>S.Bel (ld f) k∧S.Bel k (ld e)) (fun g hg hr hc=>?_)
   have a1:=(fg g hg).1 hR' hr;have a2:=(ge g hg).1 hr hR;have a3:=due g hg (hr.trans hR.symm);have a4:=duf g hg (hr.trans hR'.symm);have a5:=ase g hg (hr.trans hR.symm);have a6:=asf g hg (hr.trans hR'.symm);have a7:=(fg e he).1 hR' hR;unfold Ahead at ha
   grind
  ·refine .backR hb hb' ?_ ?_ ?_
   ·refine nR (P:=fun k=>S.Bel k (ld e)) (fun g hg hr hc=>?_)
    have a1:=(fg g hg).1 hR' hr;have a2:=(ge g hg).1 hr hR;have a3:=due g hg (hr.trans hR.symm);have a4:=duf g hg (hr.trans hR'.symm);have a5:=ase g hg (hr.trans hR.symm);have a7:=(fg e he).1 hR' hR;have a8:=due f hf (hR'.trans hR.symm);unfold Ahead at ha
    grind
   ·refine nR (P:=fun k=>S.Bel (ld f) k) (fun g hg hr hc=>?_)
    have a1:=(fg g hg).1 hR' hr;have a2:=(ge g hg).1 hr hR;have a3:=due g hg (hr.trans hR.symm);have a4:=duf g hg (hr.trans hR'.symm);have a6:=asf g hg (hr.trans hR'.symm);have a7:=(fg e he).1 hR' hR;have a8:=due f hf (hR'.trans hR.symm);unfold Ahead at ha
    grind
   ·refine xL (fun g hg=>?_)
    cases hr:R g
    ·exfalso
     have a1:=(fg g hg).2.2.1 hR' hr;have a2:=(ge g hg).2.2.2 hr hR;have a7:=(fg e he).1 hR' hR;have a8:=due f hf (hR'.trans hR.symm);unfold Ahead at ha
     grind
    ·rfl
end Swp
end Go.Proofs.YtnjcpljhmhdhkaaGreat
