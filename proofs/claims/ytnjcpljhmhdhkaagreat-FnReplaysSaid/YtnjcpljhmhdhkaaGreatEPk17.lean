/- part 17 -/
import Derived.Test.YtnjcpljhmhdhkaaGreatEPk16
set_option linter.unusedSimpArgs false
set_option linter.unusedVariables false
namespace Go.Proofs.YtnjcpljhmhdhkaaGreat
open Go.ChangeShapes Go.WideShapes Go.Deep Go.RowKit Go.Joins
structure St where
 D:Dr
 cs:List Int
 ds:List Dp
 fund:Int
structure RSt (w:World) (a b c d e f g:Value) (S:St):Prop where
 dr:RD w a b c d e S.D
 cs:RI w f S.cs
 ds:RDp w g S.ds
theorem RSt.below {w w':World} {a b c d e f g:Value} {S:St} (h:RSt w a b c d e f g S) (hb:Below w.heap.size w w'):RSt w' a b c d e f g S:=
 ⟨h.dr.below hb,h.cs.below hb,h.ds.below hb⟩
section
variable {H:Type} {enc:TypeId×Value->H} {w:World} {base:Nat} {spare:Nat->Bool} {BM:Bool}
end
structure StLe (S:St):Prop where
 D:DrLe S.D
 cs:S.cs.length<=1048576
 ds:S.ds.length<=1048576
structure OwnSt (base:Nat) (w:World) (a b c d e f g:Value) (S:St) (fs:List SF):Prop where
 dr:OwnD base w a b c d e S.D fs
 cs:OwnI base w f S.cs
 ds:zK base w g S.ds
 d_c:∀k,qJ a b c d e fs k->¬f.ownBlock=some k
 d_d:∀k,qJ a b c d e fs k->¬g.ownBlock=some k
 c_d:∀k,f.ownBlock=some k->¬g.ownBlock=some k
def jY (a b c d e f g:Value) (fs:List SF) (k:Nat):Prop:=qJ a b c d e fs k∨f.ownBlock=some k∨g.ownBlock=some k
section
variable {base:Nat} {w w':World} {a b c d e f g:Value} {S:St} {fs:List SF}
theorem OwnSt.lt (h:OwnSt base w a b c d e f g S fs) (k:Nat) (hk:jY a b c d e f g fs k):base<=k/\k<w.heap.size:=by
 rcases hk with hk|hk|hk
 ·exact h.dr.lt k hk
 ·exact h.cs.lt k hk
 ·exact World.ownsRow.lt h.ds k hk
theorem OwnSt.turned {T:Nat->Prop} (h:OwnSt base w a b c d e f g S fs) (hb:Turns T w w') (hs:∀k,jY a b c d e f g fs k->¬T k):OwnSt base w' a b c d e f g S fs:=
 ⟨h.dr.turned hb (fun k hk=>hs k (.inl hk)),yE h.cs hb (fun k hk=>hs k (.inr (.inl hk))),yE h.ds hb (fun k hk=>hs k (.inr (.inr hk))),h.d_c,h.d_d,h.c_d⟩
theorem OwnSt.kept (h:OwnSt base w a b c d e f g S fs) (hb:Below w.heap.size w w'):OwnSt base w' a b c d e f g S fs:=
 h.turned (T:=fun _=>False) (Turns.ofBelow hb) (fun _ _ h=>h)
theorem OwnSt.alloc (h:OwnSt base w a b c d e f g S fs) (o:Obj):OwnSt base (w.alloc o) a b c d e f g S fs:=h.kept ((aaj _ _).alloc (aaa _) o)
theorem OwnSt.setLow (h:OwnSt base w a b c d e f g S fs) {p:Addr} (hp:p.block<base) (u:Value):OwnSt base (w.setCell p u) a b c d e f g S fs:=
 h.turned (T:=fun b=>b=p.block) (Turns.ofGrown (qS w p u) (fun k hk=>by cases hk;rfl)) (fun k hk e=>by have:=(h.lt k hk).1;omega)
theorem zK.mono {base base':Nat} {w:World} {v:Value} {l:List Dp} (h:zK base w v l) (hb:base'<=base):zK base' w v l:=by
 obtain⟨h1,h2⟩:=h;refine⟨h1,?_⟩
 rcases h2 with h2|⟨g,cap,cur,e1,e2,e3⟩
 ·exact .inl h2
 ·exact .inr ⟨g,cap,cur,e1,aai hb e2,e3⟩
theorem OwnSt.mono {base':Nat} (h:OwnSt base w a b c d e f g S fs) (hb:base'<=base):OwnSt base' w a b c d e f g S fs:=
 ⟨h.dr.mono hb,h.cs.mono hb,h.ds.mono hb,h.d_c,h.d_d,h.c_d⟩
theorem OwnSt.reads (h:OwnSt base w a b c d e f g S fs):RSt w a b c d e f g S:=⟨h.dr.reads,h.cs.reads,h.ds.reads⟩
theorem zK.form {base:Nat} {w:World} {v:Value} {l:List Dp} (h:zK base w v l):∃A c,v= .slice A l.length c:=by
 obtain⟨A,c,e,_⟩:=h.reads.form;exact⟨A,c,e⟩
end
def z0o (S:St) (w:World) (e:Ending) (w':World):Prop:=∃A0 ac0 A1 ac1 A2 ac2 A3 ac3 A4 ac4 A5 ac5 A6 ac6 fs,e= .returned (.agg #[.slice A0 S.D.fn.length ac0,.slice A1 S.D.fl.length ac1,.slice A2 S.D.nn.length ac2,.slice A3 S.D.nl.length ac3,.slice A4 S.D.ss.length ac4,.slice A5 S.cs.length ac5,.slice A6 S.ds.length ac6,.int .i64 S.fund])/\
 OwnSt w.heap.size w' (.slice A0 S.D.fn.length ac0) (.slice A1 S.D.fl.length ac1) (.slice A2 S.D.nn.length ac2) (.slice A3 S.D.nl.length ac3) (.slice A4 S.D.ss.length ac4) (.slice A5 S.cs.length ac5) (.slice A6 S.ds.length ac6) S fs/\Below w.heap.size w w'
def yM (S:St) (b:Bool) (w:World) (e:Ending) (w':World):Prop:=∃A0 ac0 A1 ac1 A2 ac2 A3 ac3 A4 ac4 A5 ac5 A6 ac6 fs,e= .returned (.tuple #[.agg #[.slice A0 S.D.fn.length ac0,.slice A1 S.D.fl.length ac1,.slice A2 S.D.nn.length ac2,.slice A3 S.D.nl.length ac3,.slice A4 S.D.ss.length ac4,.slice A5 S.cs.length ac5,.slice A6 S.ds.length ac6,.int .i64 S.fund],.bool b])/\
 OwnSt w.heap.size w' (.slice A0 S.D.fn.length ac0) (.slice A1 S.D.fl.length ac1) (.slice A2 S.D.nn.length ac2) (.slice A3 S.D.nl.length ac3) (.slice A4 S.D.ss.length ac4) (.slice A5 S.cs.length ac5) (.slice A6 S.ds.length ac6) S fs/\Below w.heap.size w w'
def yx (n:Nat) (ls:List Pr):Nat->Nat
 |0=>0
 |k+1=>if (zm n ls ls.length).getD k 0=(k:Int) then yx n ls k+1 else yx n ls k
theorem Qy (n:Nat) (ls:List Pr):∀k,yx n ls k<=k
 |0=>aaa _
 |k+1=>by have:=Qy n ls k;unfold yx;split<;>omega
theorem QX {n:Nat} {ls:List Pr} {k:Nat} (h:(zm n ls ls.length).getD k 0=(k:Int)):yx n ls (k+1)=yx n ls k+1:=by simp only[yx];rw[aao h]
theorem JS {n:Nat} {ls:List Pr} {k:Nat} (h:¬(zm n ls ls.length).getD k 0=(k:Int)):yx n ls (k+1)=yx n ls k:=by simp only[yx];rw[aaq h]
noncomputable def jl (ns ls:List Pr):Int:=if winB ns ls then(yx ns.length ls ns.length:Int) else 0
noncomputable def qD (ns ls:List Pr):Int:=if winB ns ls then(ls.length:Int) -ns.length+1+jl ns ls else 0
noncomputable def jD (ns ls:List Pr):Int:=if qD ns ls -1<0 then 0 else qD ns ls -1
theorem Zq (ns ls:List Pr):0<=jl ns ls/\jl ns ls<=12:=by
 unfold jl
 cases h:winB ns ls
 ·simp
 ·have:=(zq.1 h).2.1
  have:=Qy ns.length ls ns.length;rw[aao rfl];omega
theorem VA (ns ls:List Pr): -20<=qD ns ls/\qD ns ls<=40:=by
 unfold qD
 cases h:winB ns ls
 ·simp
 ·have h1:=(zq.1 h).2.1
  have h2:=(zq.1 h).2.2.1;have:=Zq ns ls;rw[aao rfl];omega
def qg (g:List Int) (f:List Nat) (k:Nat):Nat->List Int
 |0=>g
 |j+1=>(qg g f k j).set (f.getD j 0) k
def qN (F:List (List Nat)) (z:List Int):Nat->List Int
 |0=>z
 |k+1=>qg (qN F z k) (F.getD k []) k (F.getD k []).length
theorem yQ (g:List Int) (f:List Nat) (k:Nat):∀j,(qg g f k j).length =g.length
 |0=>rfl
 |j+1=>by simp only[qg,aar];exact yQ g f k j
theorem yS (F:List (List Nat)) (z:List Int):∀k,(qN F z k).length =z.length
 |0=>rfl
 |k+1=>by simp only[qN];rw[yQ];exact yS F z k
noncomputable def zN (ns ls:List Pr):List Int:=qN (z9 ns ls) (List.replicate (2*ls.length) 0) (z9 ns ls).length
theorem vp (ns ls:List Pr):(zN ns ls).length =2*ls.length:=by unfold zN;rw[yS];simp
theorem Vj {g:List Int} {f:List Nat} {k m:Nat} (hk:k<m) (hg:∀x∈g,0<=x/\x<(m:Int)):∀j,∀x∈qg g f k j,0<=x/\x<(m:Int)
 |0=>hg
 |j+1=>by
  intro x hx;simp only[qg] at hx
  rcases List.mem_or_eq_of_mem_set hx with h|h
  ·exact Vj hk hg j x h
  ·omega
theorem Jw {F:List (List Nat)} {z:List Int} {m:Nat} (hz:∀x∈z,0<=x/\x<(m:Int)):∀k,k<=m->∀x∈qN F z k,0<=x/\x<(m:Int)
 |0,_=>hz
 |k+1,h=>Vj o_ (Jw hz k o_) _
theorem kh {ns ls:List Pr} (h:0<(z9 ns ls).length) {d:Nat} (hd:d<2*ls.length):∃k:Nat,(zN ns ls).getD d 0=(k:Int)/\k<(z9 ns ls).length :=by
 have hb:=Jw (F:=z9 ns ls) (z:=List.replicate (2*ls.length) 0) (m:=(z9 ns ls).length) (fun x hx=>by
  have:=List.eq_of_mem_replicate hx;omega) (z9 ns ls).length (aaa _)
 have hl:d<(zN ns ls).length :=by rw[vp];exact hd
 have:=hb ((zN ns ls).getD d 0) (by rw[List.getD,aac hl];exact abg hl);exact⟨((zN ns ls).getD d 0).toNat,by omega,by omega⟩
def yT (l:List Int) (a b:Int):Bool:=l.all (fun x=>inB x a b)
def kD (l:List Int) (a b:Int) (k:Nat):Prop:=∀j,j<k->inB (l.getD j 0) a b=true
theorem jL {l:List Int} {a b:Int}:yT l a b=true↔kD l a b l.length:=by
 unfold yT kD;rw[aaL]
 constructor
 ·intro h j hj
  rw[List.getD,aac hj];exact h _ (abg hj)
 ·intro h x hx
  obtain⟨j,hj,rfl⟩:=aba hx;have:=h j hj;rw[List.getD,aac hj] at this;exact this
theorem XP {l:List Int} {a b:Int} {k:Nat} (hk:k<l.length) (h:inB (l.getD k 0) a b=false):yT l a b=false:=by
 cases hc:yT l a b
 ·rfl
 ·have:=jL.1 hc k hk
  rw[h] at this;cases this
noncomputable def qk (ns ls:List Pr) (cs:List Int):Bool:=ze ns ls&&(decide (cs.length=(z9 ns ls).length)&&yT cs 0 5)
noncomputable def z9V (ns ls:List Pr) (cs:List Int) (k:Nat):Bool:=
 decide (¬(zN ns ls).getD (2*k) 0=(zN ns ls).getD (2*k+1) 0)&&decide (cs.getD ((zN ns ls).getD (2*k) 0).toNat 0=cs.getD ((zN ns ls).getD (2*k+1) 0).toNat 0)
noncomputable def je (ns ls:List Pr) (cs:List Int):Nat->Nat->Int
 |0,_=> -1
 |m+1,k=>if z9V ns ls cs k=true then k else je ns ls cs m (k+1)
noncomputable def jE (ns ls:List Pr) (cs:List Int):Int:=if qk ns ls cs=true then je ns ls cs ls.length 0 else -1
noncomputable def qf (ns ls:List Pr) (cs:List Int):Bool:=qk ns ls cs&&decide (jE ns ls cs<0)
def dpI (l:List Dp) (i:Nat):Dp:=l.getD i ⟨0,0,0⟩
theorem jW {l:List Dp} {i:Nat} (h:i<l.length):dpI l i=l[i]:=by simp[dpI,List.getD,h]
def qv (l:List Dp) (x:Int) (j:Nat):Bool:=(List.range j).all (fun i=>decide (¬(dpI l i).k =x))
theorem z0l (l:List Dp) (x:Int):qv l x 0=true:=rfl
theorem z0B (l:List Dp) (x:Int) (j:Nat):qv l x (j+1)=(qv l x j&&decide (¬(dpI l j).k =x)):=by
 unfold qv;rw[abe,List.all_append];simp
theorem Zu {l:List Dp} {x:Int} {i j:Nat} (h:i<j) (hx:(dpI l i).k =x):qv l x j=false:=by
 cases hc:qv l x j
 ·rfl
 ·unfold qv at hc
  have:=List.all_eq_true.1 hc i (List.mem_range.2 h);simp[hx] at this
def depB (l:List Dp) (i:Nat):Bool:=
 inB (dpI l i).k 1 200&&(inB (dpI l i).a 1 50&&(inB (dpI l i).b 0 9999&&((decide (i=0)||decide ((dpI l (i -1)).b <=(dpI l i).b))&&qv l (dpI l i).k i)))
def xA (l:List Dp) (k:Nat):Prop:=∀j,j<k->depB l j=true
def qB (l:List Dp):Bool:=decide (l.length<=40)&&(List.range l.length).all (depB l)
theorem yD {l:List Dp}:qB l=true↔l.length<=40/\xA l l.length:=by
 unfold qB xA;rw[aaG,aa4,aaL]
 constructor
 ·rintro⟨h1,h2⟩;exact⟨h1,fun j hj=>h2 j (List.mem_range.2 hj)⟩
 ·rintro⟨h1,h2⟩;exact⟨h1,fun j hj=>h2 j (List.mem_range.1 hj)⟩
theorem Xr {l:List Dp} {k:Nat} (hk:k<l.length) (h:depB l k=false):qB l=false:=by
 cases hc:qB l
 ·rfl
 ·have:=(yD.1 hc).2 k hk
  rw[h] at this;cases this
theorem Vv {l:List Dp} (h:¬l.length<=40):qB l=false:=by unfold qB;rw[aaO h];rfl
theorem Vt (l:List Dp):xA l 0:=fun j hj=>absurd hj o_
theorem Jp {l:List Dp} {k:Nat} (h:xA l k) (hk:depB l k=true):xA l (k+1):=fun j hj=>by
 by_cases e:j=k
 ·subst e;exact hk
 ·exact h j o_
noncomputable def zd (S:St):Bool:=
 okD S.D&&(qB S.ds&&(inB S.fund 0 1000000&&((decide (S.cs.length=0)||qf S.D.nn S.D.nl S.cs)&&((decide (S.ds.length=0)||ze S.D.nn S.D.nl)&&S.ds.all (fun d=>decide (d.k<=jD S.D.nn S.D.nl))))))
end Go.Proofs.YtnjcpljhmhdhkaaGreat
