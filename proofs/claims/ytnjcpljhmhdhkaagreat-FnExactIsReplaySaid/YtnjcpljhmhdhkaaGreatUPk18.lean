/- part 18 -/
import Derived.Test.YtnjcpljhmhdhkaaGreatUPk16
import Derived.Test.YtnjcpljhmhdhkaaGreatUPk17
set_option linter.unusedSimpArgs false
set_option linter.unusedVariables false
namespace Go.Proofs.YtnjcpljhmhdhkaaGreat
open Go.RowKit
structure OutSt (w:World) (v0 v1 v2 v3 v4:Value) (Z:Nat) (a b c d e:Value) (D:Dr) (fs:List SF) (wr:World):Prop where
 own:OwnD (w.heap.size+1+1) wr a b c d e D fs
 X:Blk wr w.heap.size 30 #[v0,v1,v2,v3,v4]
 R:Blk wr (w.heap.size+1) 30 z5_
 Z_:Blk wr Z 30 #[a,b,c,d,e]
 lt:w.heap.size+1<Z
 far:¬qn a b c d e fs Z
 blw:Below w.heap.size w wr
section
variable {w wr wr':World} {v0 v1 v2 v3 v4 a b c d e:Value} {Z:Nat} {D:Dr} {fs:List SF}
theorem OutSt.below (h:OutSt w v0 v1 v2 v3 v4 Z a b c d e D fs wr) (hb:Below wr.heap.size wr wr'):OutSt w v0 v1 v2 v3 v4 Z a b c d e D fs wr':=
 ⟨h.own.kept hb,h.X.below hb h.X.lt,h.R.below hb h.R.lt,h.Z_.below hb h.Z_.lt,h.lt,h.far,h.blw.trans (hb.mono h.blw.size)⟩
theorem OutSt.start {base:Nat} (ho:OwnD base wr a b c d e D fs) (H9:w.heap.size+1+1<=base) (hX:Blk wr w.heap.size 30 #[v0,v1,v2,v3,v4]) (hR:Blk wr (w.heap.size+1) 30 z5_) (hb:Below w.heap.size w wr):
  OutSt w v0 v1 v2 v3 v4 wr.heap.size a b c d e D fs (wr.alloc (.cells #[a,b,c,d,e] 30)):=
 ⟨(ho.mono H9).alloc _,hX.alloc _,hR.alloc _,Blk.newAt rfl,hR.lt,fun hk=>by have:=(ho.lt _ hk).2;omega,hb.alloc hb.size _⟩
theorem OutSt.fin (h:OutSt w v0 v1 v2 v3 v4 Z a b c d e D fs wr) (u0 u1 u2 u3 u4:Value):
  OwnD w.heap.size (((((wr.setCell ⟨w.heap.size+1,0,none⟩ u0).setCell ⟨w.heap.size+1,1,none⟩ u1).setCell ⟨w.heap.size+1,2,none⟩ u2).setCell ⟨w.heap.size+1,3,none⟩ u3).setCell ⟨w.heap.size+1,4,none⟩ u4) a b c d e D fs/\
  Below w.heap.size w (((((wr.setCell ⟨w.heap.size+1,0,none⟩ u0).setCell ⟨w.heap.size+1,1,none⟩ u1).setCell ⟨w.heap.size+1,2,none⟩ u2).setCell ⟨w.heap.size+1,3,none⟩ u3).setCell ⟨w.heap.size+1,4,none⟩ u4):=by
 have hR:¬qn a b c d e fs (w.heap.size+1):=fun hk=>by have:=(h.own.lt _ hk).1;omega
 have step:∀(W:World) (j:Nat) (u:Value),OwnD w.heap.size W a b c d e D fs->OwnD w.heap.size (W.setCell ⟨w.heap.size+1,j,none⟩ u) a b c d e D fs:=fun W j u hW=>hW.setFar (p:=⟨w.heap.size+1,j,none⟩) hR u
 have hs:w.heap.size<=w.heap.size+1:=Nat.le_succ _
 exact⟨step _ _ _ (step _ _ _ (step _ _ _ (step _ _ _ (step _ _ _ (h.own.mono o_))))),
  ((((h.blw.setCell (p:=⟨w.heap.size+1,0,none⟩) hs u0).setCell (p:=⟨w.heap.size+1,1,none⟩) hs u1).setCell (p:=⟨w.heap.size+1,2,none⟩) hs u2).setCell (p:=⟨w.heap.size+1,3,none⟩) hs u3).setCell (p:=⟨w.heap.size+1,4,none⟩) hs u4⟩
theorem OwnD.newNow {base base':Nat} {c' d':Value} {N L:List Pr} (h:OwnD base w a b c d e D fs) (hw:OwnW base' w c' d' N L) (hb:base<=base') (hf:∀k,zw c' d' k->¬qn a b c d e fs k):OwnD base w a b c' d' e ⟨D.fn,D.fl,N,L,D.ss⟩ fs:=
 ⟨h.first,hw.mono hb,h.ss,h.map,fun k hk gH=>hf k gH (.inl hk),h.f_s,fun k hk gH=>hf k hk (.inr (.inr gH))⟩
theorem k7 {A:Option Addr} {n c k b:Nat} (h:yD (.slice A k c) (fs.take k) b):yD (.slice A n c) fs b:=by
 rcases h with h|⟨i,hi,h⟩
 ·exact .inl (by cases A with|none=>cases h|some a=>exact h)
 ·have FV:i<fs.length:=by simp at hi;omega
  refine .inr ⟨i,FV,?_⟩
  rw[abq] at h;exact h
theorem OwnT.takeN {base:Nat} {g n c k:Nat} (h:OwnT base w (.slice (some ⟨g,0,none⟩) n c) fs) (hk:k<=fs.length):OwnT base w (.slice (some ⟨g,0,none⟩) k c) (fs.take k):=by
 have hl:(fs.take k).length =k:=by simp;omega
 refine⟨?_,fun i hi=>?_,fun i hi b hb=>?_,fun i j hi hj gr b=>?_⟩
 ·rw[hl]
  obtain⟨h1,h2⟩:=h.row;refine⟨by rw[zK sfc 5 (fun _=>rfl),hl],?_⟩
  rcases h2 with ⟨e,_⟩|⟨g',cap,cur,e,e1,e2,e3,e4,e5,e6⟩
  ·cases e
  ·injection e with e7 e8 e9
   injection e7 with e7
   injection e7 with e7
   subst e7 e9;refine .inr ⟨g,c,cur,rfl,e1,e2,by omega,e4,e5,?_⟩
   have hx:fs.flatMap sfc=(fs.take k).flatMap sfc++(fs.drop k).flatMap sfc:=by rw[<-aaY,abp]
   have hm:min (k*5) (fs.length*5)=k*5:=o_
   rw[<-hm,<-List.take_take,e6,hx,List.take_left' (by rw[zK sfc 5 (fun _=>rfl),hl])]
 ·rw[abq];exact h.win i o_
 ·rw[abq];exact h.rw_ i o_ b hb
 ·rw[abq,abq];exact h.ww i j o_ o_ gr b
theorem OwnD.takeN {base:Nat} {g n cap k:Nat} (h:OwnD base w a b c d (.slice (some ⟨g,0,none⟩) n cap) D fs) (hk:k<=fs.length):OwnD base w a b c d (.slice (some ⟨g,0,none⟩) k cap) ⟨D.fn,D.fl,D.nn,D.nl,D.ss.take k⟩ (fs.take k):=
 ⟨h.first,h.now,h.ss.takeN hk,by rw[List.map_take,h.map],h.f_n,fun x hx fX=>h.f_s x hx (k7 fX),fun x hx fX=>h.n_s x hx (k7 fX)⟩
theorem OwnD.popNow {base:Nat} {g n cap k:Nat} (h:OwnD base w a b c d (.slice (some ⟨g,0,none⟩) n cap) D fs) (hk:k<fs.length):OwnD base w a b fs[k].2.1 fs[k].2.2 (.slice (some ⟨g,0,none⟩) k cap) ⟨D.fn,D.fl,fs[k].1.ns,fs[k].1.ls,D.ss.take k⟩ (fs.take k):=by
 refine⟨h.first,h.ss.win k hk,h.ss.takeN o_,by rw[List.map_take,h.map],fun x hx fX=>h.f_s x hx (.inr ⟨k,hk,fX⟩),fun x hx fX=>h.f_s x hx (k7 fX),fun x hx fX=>?_⟩
 rcases fX with fX|⟨i,hi,fX⟩
 ·exact h.ss.rw_ k hk x fX hx
 ·rw[abq] at fX
  have FV:i<k:=by simp at hi;omega
  exact h.ss.ww i k o_ hk o_ x fX hx
end
theorem OwnT.addr {base:Nat} {w:World} {A:Option Addr} {n c:Nat} {fs:List SF} (h:OwnT base w (.slice A n c) fs) (hn:0<fs.length):∃g,A=some ⟨g,0,none⟩/\n=fs.length/\n<=c:=by
 rcases h.row.2 with ⟨_,h0⟩|⟨g,cap,cur,e,_,_,h3,_⟩
 ·omega
 ·injection e with e1 e2 e3
  exact⟨g,e1,e2,by omega⟩
def z5F (D:Dr) (b:Bool) (w:World) (e:Ending) (w':World):Prop:=∃A0 c0 A1 c1 A2 c2 A3 c3 A4 c4 fs,
 e= .returned (.tuple #[.agg #[.slice A0 D.fn.length c0,.slice A1 D.fl.length c1,.slice A2 D.nn.length c2,.slice A3 D.nl.length c3,.slice A4 D.ss.length c4],.bool b])/\
 OwnD w.heap.size w' (.slice A0 D.fn.length c0) (.slice A1 D.fl.length c1) (.slice A2 D.nn.length c2) (.slice A3 D.nl.length c3) (.slice A4 D.ss.length c4) D fs/\Below w.heap.size w w'
theorem DrLe.cnt {D:Dr} (h:DrLe D):cntD D<=20000000:=by
 have e:cntD D=2*D.fn.length+2*D.fl.length+2*D.nn.length+2*D.nl.length+cntS D.ss:=rfl;have:=z5Q D.ss;have:=h.fn;have:=h.fl;have:=h.nn;have:=h.nl;have:=h.ss;have:=h.sum;omega
def z2g (b:Bool) (D:Dr):Bool:=b&&decide (0<D.ss.length)
def z2C (b:Bool) (D:Dr):Dr:=if h:b=true/\0<D.ss.length then⟨D.fn,D.fl,(D.ss[D.ss.length -1]'o_).ns,(D.ss[D.ss.length -1]'o_).ls,D.ss.take (D.ss.length -1)⟩ else D
theorem z8g {b:Bool} {D:Dr} (h:¬(b=true/\0<D.ss.length)):z2C b D=D:=by unfold z2C;rw[dif_neg h]
theorem z7i {D:Dr} (h:0<D.ss.length):z2C true D=⟨D.fn,D.fl,(D.ss[D.ss.length -1]'o_).ns,(D.ss[D.ss.length -1]'o_).ls,D.ss.take (D.ss.length -1)⟩:=by unfold z2C;rw[dif_pos ⟨rfl,h⟩]
def yJ (n:Nat) (ls:List Pr):Nat->Nat
 |0=>0
 |k+1=>if (zi n ls ls.length).getD k 0=(k:Int) then yJ n ls k+1 else yJ n ls k
theorem ZW (n:Nat) (ls:List Pr):∀k,yJ n ls k<=k
 |0=>aaa _
 |k+1=>by have:=ZW n ls k;unfold yJ;split<;>omega
theorem Jk {n:Nat} {ls:List Pr} {k:Nat} (h:(zi n ls ls.length).getD k 0=(k:Int)):yJ n ls (k+1)=yJ n ls k+1:=by simp only[yJ];rw[aao h]
theorem Xx {n:Nat} {ls:List Pr} {k:Nat} (h:¬(zi n ls ls.length).getD k 0=(k:Int)):yJ n ls (k+1)=yJ n ls k:=by simp only[yJ];rw[aaq h]
noncomputable def jh (ns ls:List Pr):Int:=if winB ns ls then(yJ ns.length ls ns.length:Int) else 0
noncomputable def qA (ns ls:List Pr):Int:=if winB ns ls then(ls.length:Int) -ns.length+1+jh ns ls else 0
noncomputable def jr (ns ls:List Pr):Int:=if qA ns ls -1<0 then 0 else qA ns ls -1
theorem Jg (ns ls:List Pr):0<=jh ns ls/\jh ns ls<=12:=by
 unfold jh
 cases h:winB ns ls
 ·simp
 ·have:=(zD.1 h).2.1
  have:=ZW ns.length ls ns.length;rw[aao rfl];omega
theorem z03 (ns ls:List Pr): -20<=qA ns ls/\qA ns ls<=40:=by
 unfold qA
 cases h:winB ns ls
 ·simp
 ·have h1:=(zD.1 h).2.1
  have h2:=(zD.1 h).2.2.1;have:=Jg ns ls;rw[aao rfl];omega
def qc (g:List Int) (f:List Nat) (k:Nat):Nat->List Int
 |0=>g
 |j+1=>(qc g f k j).set (f.getD j 0) k
def qK (F:List (List Nat)) (z:List Int):Nat->List Int
 |0=>z
 |k+1=>qc (qK F z k) (F.getD k []) k (F.getD k []).length
theorem vp (g:List Int) (f:List Nat) (k:Nat):∀j,(qc g f k j).length =g.length
 |0=>rfl
 |j+1=>by simp only[qc,aar];exact vp g f k j
theorem vk (F:List (List Nat)) (z:List Int):∀k,(qK F z k).length =z.length
 |0=>rfl
 |k+1=>by simp only[qK];rw[vp];exact vk F z k
noncomputable def zF (ns ls:List Pr):List Int:=qK (z9 ns ls) (List.replicate (2*ls.length) 0) (z9 ns ls).length
theorem vP (ns ls:List Pr):(zF ns ls).length =2*ls.length:=by unfold zF;rw[vk];simp
theorem VZ {g:List Int} {f:List Nat} {k m:Nat} (hk:k<m) (hg:∀x∈g,0<=x/\x<(m:Int)):∀j,∀x∈qc g f k j,0<=x/\x<(m:Int)
 |0=>hg
 |j+1=>by
  intro x hx;simp only[qc] at hx
  rcases List.mem_or_eq_of_mem_set hx with h|h
  ·exact VZ hk hg j x h
  ·omega
theorem XA {F:List (List Nat)} {z:List Int} {m:Nat} (hz:∀x∈z,0<=x/\x<(m:Int)):∀k,k<=m->∀x∈qK F z k,0<=x/\x<(m:Int)
 |0,_=>hz
 |k+1,h=>VZ o_ (XA hz k o_) _
theorem kK {ns ls:List Pr} (h:0<(z9 ns ls).length) {d:Nat} (hd:d<2*ls.length):∃k:Nat,(zF ns ls).getD d 0=(k:Int)/\k<(z9 ns ls).length :=by
 have hb:=XA (F:=z9 ns ls) (z:=List.replicate (2*ls.length) 0) (m:=(z9 ns ls).length) (fun x hx=>by
  have:=List.eq_of_mem_replicate hx;omega) (z9 ns ls).length (aaa _)
 have hl:d<(zF ns ls).length :=by rw[vP];exact hd
 have:=hb ((zF ns ls).getD d 0) (by rw[List.getD,aac hl];exact abh hl);exact⟨((zF ns ls).getD d 0).toNat,by omega,by omega⟩
def vi (l:List Int) (a b:Int):Bool:=l.all (fun x=>inB x a b)
def x5 (l:List Int) (a b:Int) (k:Nat):Prop:=∀j,j<k->inB (l.getD j 0) a b=true
theorem jS {l:List Int} {a b:Int}:vi l a b=true↔x5 l a b l.length:=by
 unfold vi x5;rw[aaM]
 constructor
 ·intro h j hj
  rw[List.getD,aac hj];exact h _ (abh hj)
 ·intro h x hx
  obtain⟨j,hj,rfl⟩:=abb hx;have:=h j hj;rw[List.getD,aac hj] at this;exact this
theorem z0T {l:List Int} {a b:Int} {k:Nat} (hk:k<l.length) (h:inB (l.getD k 0) a b=false):vi l a b=false:=by
 cases hc:vi l a b
 ·rfl
 ·have:=jS.1 hc k hk
  rw[h] at this;cases this
noncomputable def qk (ns ls:List Pr) (cs:List Int):Bool:=zf ns ls&&(decide (cs.length=(z9 ns ls).length)&&vi cs 0 5)
noncomputable def vu (ns ls:List Pr) (cs:List Int) (k:Nat):Bool:=
 decide (¬(zF ns ls).getD (2*k) 0=(zF ns ls).getD (2*k+1) 0)&&decide (cs.getD ((zF ns ls).getD (2*k) 0).toNat 0=cs.getD ((zF ns ls).getD (2*k+1) 0).toNat 0)
noncomputable def jd (ns ls:List Pr) (cs:List Int):Nat->Nat->Int
 |0,_=> -1
 |m+1,k=>if vu ns ls cs k=true then k else jd ns ls cs m (k+1)
noncomputable def jJ (ns ls:List Pr) (cs:List Int):Int:=if qk ns ls cs=true then jd ns ls cs ls.length 0 else -1
noncomputable def zY (ns ls:List Pr) (cs:List Int):Bool:=qk ns ls cs&&decide (jJ ns ls cs<0)
def dpI (l:List Dp) (i:Nat):Dp:=l.getD i ⟨0,0,0⟩
theorem jV {l:List Dp} {i:Nat} (h:i<l.length):dpI l i=l[i]:=by simp[dpI,List.getD,h]
def qu (l:List Dp) (x:Int) (j:Nat):Bool:=(List.range j).all (fun i=>decide (¬(dpI l i).k =x))
theorem z2o (l:List Dp) (x:Int):qu l x 0=true:=rfl
theorem z1O (l:List Dp) (x:Int) (j:Nat):qu l x (j+1)=(qu l x j&&decide (¬(dpI l j).k =x)):=by
 unfold qu;rw[abf,List.all_append];simp
theorem Qc {l:List Dp} {x:Int} {i j:Nat} (h:i<j) (hx:(dpI l i).k =x):qu l x j=false:=by
 cases hc:qu l x j
 ·rfl
 ·unfold qu at hc
  have:=List.all_eq_true.1 hc i (List.mem_range.2 h);simp[hx] at this
def depB (l:List Dp) (i:Nat):Bool:=
 inB (dpI l i).k 1 200&&(inB (dpI l i).a 1 50&&(inB (dpI l i).b 0 9999&&((decide (i=0)||decide ((dpI l (i -1)).b <=(dpI l i).b))&&qu l (dpI l i).k i)))
def Qb (l:List Dp) (k:Nat):Prop:=∀j,j<k->depB l j=true
def qm (l:List Dp):Bool:=decide (l.length<=40)&&(List.range l.length).all (depB l)
theorem yt {l:List Dp}:qm l=true↔l.length<=40/\Qb l l.length:=by
 unfold qm Qb;rw[aaH,aa5,aaM]
 constructor
 ·rintro⟨h1,h2⟩;exact⟨h1,fun j hj=>h2 j (List.mem_range.2 hj)⟩
 ·rintro⟨h1,h2⟩;exact⟨h1,fun j hj=>h2 j (List.mem_range.1 hj)⟩
theorem z1n {l:List Dp} {k:Nat} (hk:k<l.length) (h:depB l k=false):qm l=false:=by
 cases hc:qm l
 ·rfl
 ·have:=(yt.1 hc).2 k hk
  rw[h] at this;cases this
theorem Xg {l:List Dp} (h:¬l.length<=40):qm l=false:=by unfold qm;rw[aaP h];rfl
theorem Xb (l:List Dp):Qb l 0:=fun j hj=>absurd hj o_
theorem Xn {l:List Dp} {k:Nat} (h:Qb l k) (hk:depB l k=true):Qb l (k+1):=fun j hj=>by
 by_cases e:j=k
 ·subst e;exact hk
 ·exact h j o_
noncomputable def ze (S:St):Bool:=
 okD S.D&&(qm S.ds&&(inB S.fund 0 1000000&&((decide (S.cs.length=0)||zY S.D.nn S.D.nl S.cs)&&((decide (S.ds.length=0)||zf S.D.nn S.D.nl)&&S.ds.all (fun d=>decide (d.k<=jr S.D.nn S.D.nl))))))
end Go.Proofs.YtnjcpljhmhdhkaaGreat
