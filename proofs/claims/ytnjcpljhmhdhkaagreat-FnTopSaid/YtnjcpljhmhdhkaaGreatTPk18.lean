/- part 18 -/
import Derived.Test.YtnjcpljhmhdhkaaGreatTPk16
import Derived.Test.YtnjcpljhmhdhkaaGreatTPk17
set_option linter.unusedSimpArgs false
set_option linter.unusedVariables false
namespace Go.Proofs.YtnjcpljhmhdhkaaGreat
def yJ (n:Nat) (ls:List Pr):Nat->Nat
 |0=>0
 |k+1=>if (zl n ls ls.length).getD k 0=(k:Int) then yJ n ls k+1 else yJ n ls k
theorem Zk (n:Nat) (ls:List Pr):∀k,yJ n ls k<=k
 |0=>aaa _
 |k+1=>by have:=Zk n ls k;unfold yJ;split<;>omega
theorem Zo {n:Nat} {ls:List Pr} {k:Nat} (h:(zl n ls ls.length).getD k 0=(k:Int)):yJ n ls (k+1)=yJ n ls k+1:=by simp only[yJ];rw[aao h]
theorem Xi {n:Nat} {ls:List Pr} {k:Nat} (h:¬(zl n ls ls.length).getD k 0=(k:Int)):yJ n ls (k+1)=yJ n ls k:=by simp only[yJ];rw[aaq h]
noncomputable def jm (ns ls:List Pr):Int:=if winB ns ls then(yJ ns.length ls ns.length:Int) else 0
noncomputable def qC (ns ls:List Pr):Int:=if winB ns ls then(ls.length:Int) -ns.length+1+jm ns ls else 0
noncomputable def qF (ns ls:List Pr):Int:=if qC ns ls -1<0 then 0 else qC ns ls -1
theorem ZN (ns ls:List Pr):0<=jm ns ls/\jm ns ls<=12:=by
 unfold jm
 cases h:winB ns ls
 ·simp
 ·have:=(zu.1 h).2.1
  have:=Zk ns.length ls ns.length;rw[aao rfl];omega
theorem QF (ns ls:List Pr): -20<=qC ns ls/\qC ns ls<=40:=by
 unfold qC
 cases h:winB ns ls
 ·simp
 ·have h1:=(zu.1 h).2.1
  have h2:=(zu.1 h).2.2.1;have:=ZN ns ls;rw[aao rfl];omega
def qj (g:List Int) (f:List Nat) (k:Nat):Nat->List Int
 |0=>g
 |j+1=>(qj g f k j).set (f.getD j 0) k
def qQ (F:List (List Nat)) (z:List Int):Nat->List Int
 |0=>z
 |k+1=>qj (qQ F z k) (F.getD k []) k (F.getD k []).length
theorem vi (g:List Int) (f:List Nat) (k:Nat):∀j,(qj g f k j).length =g.length
 |0=>rfl
 |j+1=>by simp only[qj,aar];exact vi g f k j
theorem vo (F:List (List Nat)) (z:List Int):∀k,(qQ F z k).length =z.length
 |0=>rfl
 |k+1=>by simp only[qQ];rw[vi];exact vo F z k
noncomputable def zM (ns ls:List Pr):List Int:=qQ (z9 ns ls) (List.replicate (2*ls.length) 0) (z9 ns ls).length
theorem vL (ns ls:List Pr):(zM ns ls).length =2*ls.length:=by unfold zM;rw[vo];simp
theorem Vo {g:List Int} {f:List Nat} {k m:Nat} (hk:k<m) (hg:∀x∈g,0<=x/\x<(m:Int)):∀j,∀x∈qj g f k j,0<=x/\x<(m:Int)
 |0=>hg
 |j+1=>by
  intro x hx;simp only[qj] at hx
  rcases List.mem_or_eq_of_mem_set hx with h|h
  ·exact Vo hk hg j x h
  ·omega
theorem VK {F:List (List Nat)} {z:List Int} {m:Nat} (hz:∀x∈z,0<=x/\x<(m:Int)):∀k,k<=m->∀x∈qQ F z k,0<=x/\x<(m:Int)
 |0,_=>hz
 |k+1,h=>Vo o_ (VK hz k o_) _
theorem kx {ns ls:List Pr} (h:0<(z9 ns ls).length) {d:Nat} (hd:d<2*ls.length):∃k:Nat,(zM ns ls).getD d 0=(k:Int)/\k<(z9 ns ls).length :=by
 have hb:=VK (F:=z9 ns ls) (z:=List.replicate (2*ls.length) 0) (m:=(z9 ns ls).length) (fun x hx=>by
  have:=List.eq_of_mem_replicate hx;omega) (z9 ns ls).length (aaa _)
 have hl:d<(zM ns ls).length :=by rw[vL];exact hd
 have:=hb ((zM ns ls).getD d 0) (by rw[List.getD,aac hl];exact abg hl);exact⟨((zM ns ls).getD d 0).toNat,by omega,by omega⟩
def vj (l:List Int) (a b:Int):Bool:=l.all (fun x=>inB x a b)
def kT (l:List Int) (a b:Int) (k:Nat):Prop:=∀j,j<k->inB (l.getD j 0) a b=true
theorem jW {l:List Int} {a b:Int}:vj l a b=true↔kT l a b l.length:=by
 unfold vj kT;rw[aaL]
 constructor
 ·intro h j hj
  rw[List.getD,aac hj];exact h _ (abg hj)
 ·intro h x hx
  obtain⟨j,hj,rfl⟩:=aba hx;have:=h j hj;rw[List.getD,aac hj] at this;exact this
theorem XW {l:List Int} {a b:Int} {k:Nat} (hk:k<l.length) (h:inB (l.getD k 0) a b=false):vj l a b=false:=by
 cases hc:vj l a b
 ·rfl
 ·have:=jW.1 hc k hk
  rw[h] at this;cases this
noncomputable def qm (ns ls:List Pr) (cs:List Int):Bool:=zf ns ls&&(decide (cs.length=(z9 ns ls).length)&&vj cs 0 5)
noncomputable def vr (ns ls:List Pr) (cs:List Int) (k:Nat):Bool:=
 decide (¬(zM ns ls).getD (2*k) 0=(zM ns ls).getD (2*k+1) 0)&&decide (cs.getD ((zM ns ls).getD (2*k) 0).toNat 0=cs.getD ((zM ns ls).getD (2*k+1) 0).toNat 0)
noncomputable def je (ns ls:List Pr) (cs:List Int):Nat->Nat->Int
 |0,_=> -1
 |m+1,k=>if vr ns ls cs k=true then k else je ns ls cs m (k+1)
noncomputable def jK (ns ls:List Pr) (cs:List Int):Int:=if qm ns ls cs=true then je ns ls cs ls.length 0 else -1
noncomputable def q7 (ns ls:List Pr) (cs:List Int):Bool:=qm ns ls cs&&decide (jK ns ls cs<0)
def dpI (l:List Dp) (i:Nat):Dp:=l.getD i ⟨0,0,0⟩
theorem y6 {l:List Dp} {i:Nat} (h:i<l.length):dpI l i=l[i]:=by simp[dpI,List.getD,h]
def qB (l:List Dp) (x:Int) (j:Nat):Bool:=(List.range j).all (fun i=>decide (¬(dpI l i).k =x))
theorem z1h (l:List Dp) (x:Int):qB l x 0=true:=rfl
theorem z0Z (l:List Dp) (x:Int) (j:Nat):qB l x (j+1)=(qB l x j&&decide (¬(dpI l j).k =x)):=by
 unfold qB;rw[abe,List.all_append];simp
theorem xY {l:List Dp} {x:Int} {i j:Nat} (h:i<j) (hx:(dpI l i).k =x):qB l x j=false:=by
 cases hc:qB l x j
 ·rfl
 ·unfold qB at hc
  have:=List.all_eq_true.1 hc i (List.mem_range.2 h);simp[hx] at this
def depB (l:List Dp) (i:Nat):Bool:=
 inB (dpI l i).k 1 200&&(inB (dpI l i).a 1 50&&(inB (dpI l i).b 0 9999&&((decide (i=0)||decide ((dpI l (i -1)).b <=(dpI l i).b))&&qB l (dpI l i).k i)))
def xZ (l:List Dp) (k:Nat):Prop:=∀j,j<k->depB l j=true
def qn (l:List Dp):Bool:=decide (l.length<=40)&&(List.range l.length).all (depB l)
theorem ym {l:List Dp}:qn l=true↔l.length<=40/\xZ l l.length:=by
 unfold qn xZ;rw[aaG,aa4,aaL]
 constructor
 ·rintro⟨h1,h2⟩;exact⟨h1,fun j hj=>h2 j (List.mem_range.2 hj)⟩
 ·rintro⟨h1,h2⟩;exact⟨h1,fun j hj=>h2 j (List.mem_range.1 hj)⟩
theorem XT {l:List Dp} {k:Nat} (hk:k<l.length) (h:depB l k=false):qn l=false:=by
 cases hc:qn l
 ·rfl
 ·have:=(ym.1 hc).2 k hk
  rw[h] at this;cases this
theorem JN {l:List Dp} (h:¬l.length<=40):qn l=false:=by unfold qn;rw[aaO h];rfl
theorem VC (l:List Dp):xZ l 0:=fun j hj=>absurd hj o_
theorem VN {l:List Dp} {k:Nat} (h:xZ l k) (hk:depB l k=true):xZ l (k+1):=fun j hj=>by
 by_cases e:j=k
 ·subst e;exact hk
 ·exact h j o_
noncomputable def ze (S:St):Bool:=
 okD S.D&&(qn S.ds&&(inB S.fund 0 1000000&&((decide (S.cs.length=0)||q7 S.D.nn S.D.nl S.cs)&&((decide (S.ds.length=0)||zf S.D.nn S.D.nl)&&S.ds.all (fun d=>decide (d.k<=qF S.D.nn S.D.nl))))))
end Go.Proofs.YtnjcpljhmhdhkaaGreat
