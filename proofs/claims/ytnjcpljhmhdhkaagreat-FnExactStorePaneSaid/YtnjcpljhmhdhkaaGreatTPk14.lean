/- part 14 -/
import Derived.Test.YtnjcpljhmhdhkaaGreatTPk3
import Derived.Test.YtnjcpljhmhdhkaaGreatTPk13
import Derived.OwnWalk
import Derived.StillTailTactics
set_option linter.unusedSimpArgs false
set_option linter.unusedVariables false
set_option maxRecDepth 100000
set_option maxHeartbeats 8000000
namespace Go.Proofs.YtnjcpljhmhdhkaaGreat
open Go.ChangeShapes Go.WideShapes Go.Deep Go.RowKit Go.Joins
structure Sp where
 k:Int
 a:Int
 b:Int
 ns:List (Int×Int)
 ls:List (Int×Int)
def Qk (w:World) (b o:Nat) (s:Sp):Prop:=
 w.cell? ⟨b,o,none⟩=some (.int .i64 s.k)∧w.cell? ⟨b,o+1,none⟩=some (.int .i64 s.a)∧w.cell? ⟨b,o+2,none⟩=some (.int .i64 s.b)∧
  ∃vn vl,w.cell? ⟨b,o+3,none⟩=some vn∧w.cell? ⟨b,o+4,none⟩=some vl∧RP w vn s.ns∧RP w vl s.ls
def RT (w:World) (v:Value) (l:List Sp):Prop:=∃A c,v= .slice A l.length c∧l.length≤c∧l.length≤maxLen∧
 (0<l.length→∃b off,A=some ⟨b,off,none⟩∧b<w.heap.size∧∀k (hk:k<l.length),Qk w b (off+k*5) l[k])
theorem Qk.below {w w':World} {b o:Nat} {s:Sp} (h:Qk w b o s) (hb:Below w.heap.size w w') (hl:b<w.heap.size):Qk w' b o s:=by
 obtain⟨h0,h1,h2,vn,vl,h3,h4,hn,hl'⟩:=h
 exact⟨(hb.cell (p:=⟨b,o,none⟩) hl).trans h0,(hb.cell (p:=⟨b,o+1,none⟩) hl).trans h1,(hb.cell (p:=⟨b,o+2,none⟩) hl).trans h2,vn,vl,
  (hb.cell (p:=⟨b,o+3,none⟩) hl).trans h3,(hb.cell (p:=⟨b,o+4,none⟩) hl).trans h4,hn.below hb,hl'.below hb⟩
theorem RT.below {w w':World} {v:Value} {l:List Sp} (h:RT w v l) (hb:Below w.heap.size w w'):RT w' v l:=by
 obtain⟨A,c,h1,h2,h3,h4⟩:=h;refine⟨A,c,h1,h2,h3,fun hp=>?_⟩
 obtain⟨b,off,g1,g2,g3⟩:=h4 hp;have:=hb.size;exact⟨b,off,g1,by omega,fun k hk=>(g3 k hk).below hb g2⟩
theorem RT.nil (w:World):RT w (.slice none 0 0) []:=⟨none,0,rfl,Nat.le_refl _,Nat.zero_le _,fun h=>absurd h (by simp)⟩
structure Dr where
 fn:List (Int×Int)
 fl:List (Int×Int)
 nn:List (Int×Int)
 nl:List (Int×Int)
 ss:List Sp
structure RD (w:World) (a b c d e:Value) (D:Dr):Prop where
 fn:RP w a D.fn
 fl:RP w b D.fl
 nn:RP w c D.nn
 nl:RP w d D.nl
 ss:RT w e D.ss
theorem RD.below {w w':World} {a b c d e:Value} {D:Dr} (h:RD w a b c d e D) (hb:Below w.heap.size w w'):RD w' a b c d e D:=
 ⟨h.fn.below hb,h.fl.below hb,h.nn.below hb,h.nl.below hb,h.ss.below hb⟩
section
variable {H:Type} {enc:TypeId×Value→H} {w:World} {base:Nat} {spare:Nat→Bool} {held:Bool}
theorem kb {n:Nat} {v0 v1:Value} {x:DataW H×List MemPlace} (h:DataW.trod enc Tryz.prog w base spare held n 55 [v0,v1]=some x):
  ∃ns ls,RP w v0 ns∧RP w v1 ls:=by
 obtain⟨ys,m,_,_,_,hyl,hf⟩:=DataW.trod_struct Tryz.underlying55 h;have hyl':ys.length=2:=hyl;have h0:DataW.trod enc Tryz.prog w base spare held m 52 (List.take (Tryz.prog.cellsOf 52) (List.drop 0 [v0,v1]))=ys[0]? :=hf 0 _ rfl;have h1:DataW.trod enc Tryz.prog w base spare held m 53 (List.take (Tryz.prog.cellsOf 53) (List.drop 1 [v0,v1]))=ys[1]? :=hf 1 _ rfl;rw[List.getElem?_eq_getElem (show 0<ys.length by omega)] at h0;rw[List.getElem?_eq_getElem (show 1<ys.length by omega)] at h1;have c0:Tryz.prog.cellsOf 52=1:=by kernel_rfl
 have c1:Tryz.prog.cellsOf 53=1:=by kernel_rfl
 simp only[c0,c1,List.drop_zero,List.drop_succ_cons,List.take_succ_cons,List.take_zero] at h0 h1
 obtain⟨ns,hns⟩:=Zl Tryz.underlying52 Tryz.underlying213 (by kernel_rfl) (by kernel_rfl) Tryz.underlying3 Tryz.underlying3 h0;obtain⟨ls,hls⟩:=Zl Tryz.underlying53 Tryz.underlying215 (by kernel_rfl) (by kernel_rfl) Tryz.underlying3 Tryz.underlying3 h1;exact⟨ns,ls,hns,hls⟩
theorem list5 {α:Type} {l:List α} (h:l.length=5):∃a b c d e,l=[a,b,c,d,e]:=by
 match l,h with
 | [a,b,c,d,e],_=>exact⟨a,b,c,d,e,rfl⟩
theorem V0 {n:Nat} {cs:List Value} {x:DataW H×List MemPlace} (h:DataW.trod enc Tryz.prog w base spare held n 195 cs=some x):
  ∃(k a b:Int) (vn vl:Value) (ns ls:List (Int×Int)),cs=[.int .i64 k,.int .i64 a,.int .i64 b,vn,vl]∧RP w vn ns∧RP w vl ls:=by
 obtain⟨ys,m,_,_,hcl,hyl,hf⟩:=DataW.trod_struct Tryz.underlying195 h;have hC:Tryz.prog.cellsOf 195=5:=by kernel_rfl
 rw[hC] at hcl;obtain⟨u0,u1,u2,u3,u4,rfl⟩:=list5 hcl;have hyl':ys.length=4:=hyl;have h0:DataW.trod enc Tryz.prog w base spare held m 3 (List.take (Tryz.prog.cellsOf 3) (List.drop 0 [u0,u1,u2,u3,u4]))=ys[0]? :=hf 0 _ rfl;have h1:DataW.trod enc Tryz.prog w base spare held m 3 (List.take (Tryz.prog.cellsOf 3) (List.drop 1 [u0,u1,u2,u3,u4]))=ys[1]? :=hf 1 _ rfl;have h2:DataW.trod enc Tryz.prog w base spare held m 3 (List.take (Tryz.prog.cellsOf 3) (List.drop 2 [u0,u1,u2,u3,u4]))=ys[2]? :=hf 2 _ rfl;have h3:DataW.trod enc Tryz.prog w base spare held m 55 (List.take (Tryz.prog.cellsOf 55) (List.drop 3 [u0,u1,u2,u3,u4]))=ys[3]? :=hf 3 _ rfl;rw[List.getElem?_eq_getElem (show 0<ys.length by omega)] at h0;rw[List.getElem?_eq_getElem (show 1<ys.length by omega)] at h1;rw[List.getElem?_eq_getElem (show 2<ys.length by omega)] at h2;rw[List.getElem?_eq_getElem (show 3<ys.length by omega)] at h3;have c0:Tryz.prog.cellsOf 3=1:=by kernel_rfl
 have c1:Tryz.prog.cellsOf 55=2:=by kernel_rfl
 simp only[c0,c1,List.drop_zero,List.drop_succ_cons,List.take_succ_cons,List.take_zero] at h0 h1 h2 h3
 obtain⟨k,e0,_,_⟩:=DataW.trod_int Tryz.underlying3 h0;obtain⟨a,e1,_,_⟩:=DataW.trod_int Tryz.underlying3 h1;obtain⟨b,e2,_,_⟩:=DataW.trod_int Tryz.underlying3 h2;obtain⟨ns,ls,hn,hl⟩:=kb h3;simp at e0 e1 e2
 subst e0 e1 e2;exact⟨k,a,b,u3,u4,ns,ls,rfl,hn,hl⟩
theorem Va {α:Type} {Q:Nat→α→Prop}:∀(n:Nat),(∀i,i<n→∃x,Q i x)→∃l:List α,l.length=n∧∀i (hi:i<l.length),Q i l[i]
 |0,_=>⟨[],rfl,fun i hi=>absurd hi (by simp)⟩
 |n+1,h=>by
  obtain⟨l,hl,hq⟩:=Va n (fun i hi=>h i (by omega));obtain⟨x,hx⟩:=h n (by omega);refine⟨l++[x],by simp[hl],fun i hi=>?_⟩
  by_cases hin:i<l.length
  ·rw[List.getElem_append_left hin];exact hq i hin
  ·have:i=l.length:=by simp at hi;omega
   subst this;simp only[List.getElem_append_right (Nat.le_refl _),Nat.sub_self,List.getElem_cons_zero]
   rw[hl];exact hx
theorem z1d {n:Nat} {v:Value} {x:DataW H×List MemPlace} (h:DataW.trod enc Tryz.prog w base spare held n 56 [v]=some x):∃l:List Sp,RT w v l:=by
 rcases open_slice Tryz.underlying56 h with ⟨hcs,_⟩|⟨a,len,cap,m,n',D,Pl,hcs,hb,hl,hm,hmm,hx,hi⟩
 ·simp only[List.cons.injEq,and_true] at hcs
  subst hcs;exact⟨[],RT.nil w⟩
 ·simp only[List.cons.injEq,and_true] at hcs
  subst hcs;have hlm:len≤m:=by rw[hmm];split<;>omega
  have hC:Tryz.prog.cellsOf 195=5:=by kernel_rfl
  obtain⟨b,off,sp⟩:=a
  have hsp:0<len→sp=none:=by
   intro hpos;obtain⟨cs',hc,ht'⟩:=hi 0 (by omega);rw[hC] at hc;obtain⟨k,a',b',vn,vl,ns,ls,rfl,hn,hl'⟩:=V0 ht';obtain⟨_,hcl,hat⟩:=World.cells?_some hc;have g0:=hat 0 (by omega);have e0:((⟨b,off,sp⟩:Addr).add (0*5)).add 0=⟨b,off,sp⟩:=by simp[Addr.add]
   rw[e0] at g0
   cases hs:sp with
   |none=>rfl
   |some s=>
    rw[hs] at g0;unfold World.cell? at g0
    split at g0
    ·simp at g0
    ·simp at g0
  have key:∀i,i<len→∃s:Sp,sp=none∧b<w.heap.size∧Qk w b (off+i*5) s:=by
   intro i hil;obtain⟨cs',hc,ht'⟩:=hi i (by omega);rw[hC] at hc;obtain⟨k,a',b',vn,vl,ns,ls,rfl,hn,hl'⟩:=V0 ht';obtain⟨_,hcl,hat⟩:=World.cells?_some hc;have g0:=hat 0 (by omega);have hsp':=hsp (by omega);subst hsp'
   have hadd:∀(o k:Nat),(⟨b,o,none⟩:Addr).add k=⟨b,o+k,none⟩:=by
    intro o k;unfold Addr.add
    split<;>simp_all
   have g1:=hat 1 (by omega);have g2:=hat 2 (by omega);have g3:=hat 3 (by omega);have g4:=hat 4 (by omega);simp only[hadd,Nat.add_zero,List.getElem?_cons_zero,List.getElem?_cons_succ] at g0 g1 g2 g3 g4
   exact⟨⟨k,a',b',ns,ls⟩,rfl,World.block_lt_of_cell? w _ g0,g0,g1,g2,vn,vl,g3,g4,hn,hl'⟩
  obtain⟨l,hll,hq⟩:=Va len key;refine⟨l,some ⟨b,off,sp⟩,cap,by rw[hll],by omega,by omega,fun hpos=>?_⟩
  obtain⟨rfl,hbl,_⟩:=hq 0 hpos;exact⟨b,off,rfl,hbl,fun k hk=>(hq k hk).2.2⟩
end
open Go.RowKit
abbrev SF:=Sp×Value×Value
def sfc (f:SF):List Value:=[.int .i64 f.1.k,.int .i64 f.1.a,.int .i64 f.1.b,f.2.1,f.2.2]
structure OwnT (base:Nat) (w:World) (v:Value) (fs:List SF):Prop where
 row:w.ownsRow base 113 5 v fs.length (fs.flatMap sfc)
 win:∀k (hk:k<fs.length),OwnW base w fs[k].2.1 fs[k].2.2 fs[k].1.ns fs[k].1.ls
 rw_:∀k (hk:k<fs.length) b,v.ownBlock=some b→¬zl fs[k].2.1 fs[k].2.2 b
 ww:∀i j (hi:i<fs.length) (hj:j<fs.length),i≠j→∀b,zl fs[i].2.1 fs[i].2.2 b→¬zl fs[j].2.1 fs[j].2.2 b
def yd (v:Value) (fs:List SF) (b:Nat):Prop:=v.ownBlock=some b∨∃k,∃hk:k<fs.length,zl fs[k].2.1 fs[k].2.2 b
section
variable {base:Nat} {w w':World} {v:Value} {fs:List SF}
theorem OwnT.lt (h:OwnT base w v fs) (b:Nat) (hb:yd v fs b):base≤b∧b<w.heap.size:=by
 rcases hb with hb|⟨k,hk,hb⟩
 ·exact World.ownsRow.lt h.row b hb
 ·exact(h.win k hk).lt b hb
theorem OwnT.turned {S:Nat→Prop} (h:OwnT base w v fs) (hb:Turns S w w') (hs:∀b,yd v fs b→¬S b):OwnT base w' v fs:=
 ⟨qF h.row hb (fun b hb=>hs b (.inl hb)),fun k hk=>(h.win k hk).turned hb (fun b hb=>hs b (.inr ⟨k,hk,hb⟩)),h.rw_,h.ww⟩
theorem OwnT.kept (h:OwnT base w v fs) (hb:Below w.heap.size w w'):OwnT base w' v fs:=
 h.turned (S:=fun _=>False) (Turns.ofBelow hb) (fun _ _ h=>h)
theorem OwnT.mono {base':Nat} (h:OwnT base w v fs) (hb:base'≤base):OwnT base' w v fs:=by
 refine⟨?_,fun k hk=>(h.win k hk).mono hb,h.rw_,h.ww⟩
 obtain⟨h1,h2⟩:=h.row;refine⟨h1,?_⟩
 rcases h2 with h2|⟨g,cap,cur,e1,e2,e3⟩
 ·exact .inl h2
 ·exact .inr ⟨g,cap,cur,e1,Nat.le_trans hb e2,e3⟩
theorem OwnT.nil (base:Nat) (w:World):OwnT base w (.slice none 0 0) []:=
 ⟨World.ownsRow_nil _ _ _ _,fun k hk=>absurd hk (by simp),fun k hk=>absurd hk (by simp),fun i j hi=>absurd hi (by simp)⟩
theorem OwnW.alloc' {vn vl:Value} {ns ls:List Pr} (h:OwnW base w vn vl ns ls) (o:Obj):OwnW base (w.alloc o) vn vl ns ls:=h.kept ((Below.refl _ _).alloc (Nat.le_refl _) o)
theorem OwnT.reads (h:OwnT base w v fs):RT w v (fs.map Prod.fst):=by
 obtain⟨h0,A,c,rfl,h1,h2,h3⟩:=kG h.row;refine⟨A,c,by simp,by simpa using h1,by simpa using h2,fun hp=>?_⟩
 obtain⟨b,off,e1,e2,e3⟩:=h3 (by simpa using hp);refine⟨b,off,e1,e2,fun k hk=>?_⟩
 have hk':k<fs.length:=by simpa using hk
 have g:=fun j hj=>qk sfc 5 (fun _=>rfl) fs k j hk' hj
 have c0:=e3 (k*5+0) _ (by rw[g 0 (by omega)];rfl);have c1:=e3 (k*5+1) _ (by rw[g 1 (by omega)];rfl);have c2:=e3 (k*5+2) _ (by rw[g 2 (by omega)];rfl);have c3:=e3 (k*5+3) _ (by rw[g 3 (by omega)];rfl);have c4:=e3 (k*5+4) _ (by rw[g 4 (by omega)];rfl);simp only[←Nat.add_assoc,Nat.add_zero] at c0 c1 c2 c3 c4
 have hw:=h.win k hk';simp only[List.getElem_map]
 exact⟨c0,c1,c2,_,_,c3,c4,hw.1.reads,hw.2.1.reads⟩
end
theorem jp:∀(l:List SF) (k j:Nat) (u:Value) (f:SF) (hk:k<l.length),j<5→(sfc l[k]).set j u=sfc f→(l.flatMap sfc).set (k*5+j) u=(l.set k f).flatMap sfc
 | [],k,_,_,_,h,_,_=>absurd h (by simp)
 |a::l,0,j,u,f,h,hj,he=>by
  rw[List.set_cons_zero,List.flatMap_cons,List.flatMap_cons,←he,List.set_append,if_pos (by simp[sfc];omega)];simp
 |a::l,k+1,j,u,f,h,hj,he=>by
  have ih:=jp l k j u f (by simpa using h) hj he;rw[List.set_cons_succ,List.flatMap_cons,List.flatMap_cons,←ih,List.set_append,if_neg (by simp[sfc];omega)];have e:(k+1)*5+j -(sfc a).length =k*5+j:=by simp[sfc];omega
  rw[e]
theorem OwnT.put {base:Nat} {w w':World} {g c n m:Nat} {fs:List SF} (h:OwnT base w (.slice (some ⟨g,0,none⟩) n c) fs) {q:Nat} {f:SF} (hq:q<fs.length) (hm:m=fs.length)
  (hrow:w'.ownsRow base 113 5 (.slice (some ⟨g,0,none⟩) n c) m ((fs.set q f).flatMap sfc)) (ht:Turns (fun b=>b=g) w w') (hf:OwnW base w f.2.1 f.2.2 f.1.ns f.1.ls)
  (hg:¬zl f.2.1 f.2.2 g) (ha:∀j (hj:j<fs.length),j≠q→∀b,zl f.2.1 f.2.2 b→¬zl fs[j].2.1 fs[j].2.2 b):
  OwnT base w' (.slice (some ⟨g,0,none⟩) n c) (fs.set q f):=by
 subst hm;refine⟨by rw[List.length_set];exact hrow,?_,?_,?_⟩
 ·intro k hk
  rw[List.length_set] at hk;rw[List.getElem_set]
  split
  ·exact hf.turned ht (fun b hb e=>by subst e;exact hg hb)
  ·exact(h.win k hk).turned ht (fun b hb e=>by subst e;exact h.rw_ k hk b rfl hb)
 ·intro k hk b hb
  rw[List.length_set] at hk;rw[List.getElem_set]
  split
  ·have:g=b:=by simpa[Value.ownBlock] using hb
   subst this;exact hg
  ·exact h.rw_ k hk b hb
 ·intro i j hi hj hne b
  rw[List.length_set] at hi hj;rw[List.getElem_set,List.getElem_set]
  split
  ·rename_i e1
   rw[if_neg (by omega)];exact ha j hj (by omega) b
  ·rename_i e1
   split
   ·intro hb hb'
    exact ha i hi (by omega) b hb' hb
   ·exact h.ww i j hi hj hne b
def szTf (n:Int):List Sp→Int
 | []=>n
 |s::r=>if szW n s.ns.length s.ls.length<0 then -1 else szTf (szW n s.ns.length s.ls.length) r
def szT (n:Int) (l:List Sp):Int:=if n -l.length<0 then -1 else szTf (n -l.length) l
theorem z0C:∀(l:List Sp) (n:Int),0≤n→szTf n l<0→szTf n l= -1
 | [],n,h0,h=>by unfold szTf at h;omega
 |s::r,n,h0,h=>by
  unfold szTf at h⊢
  split
  ·rfl
  ·rename_i hc
   rw[if_neg hc] at h;exact z0C r _ (by omega) h
theorem z5q (l:List Sp) (n:Int) (h:szT n l<0):szT n l= -1:=by
 unfold szT at h⊢
 split
 ·rfl
 ·rename_i hc
  rw[if_neg hc] at h;exact z0C l _ (by omega) h
theorem yM {n:Int} {a b:Nat} (h:¬szW n a b<0):szW n a b=n -a -b∧(a:Int)+b≤n:=by
 unfold szW at h⊢
 split
 ·rename_i h1;rw[if_pos h1] at h;omega
 ·rename_i h1
  rw[if_neg h1] at h
  split
  ·rename_i h2;rw[if_pos h2] at h;omega
  ·omega
def sumT:List Sp→Nat
 | []=>0
 |s::r=>s.ns.length+s.ls.length+sumT r
theorem z0e:∀(l:List Sp) (n:Int),¬szTf n l<0→szTf n l=n -sumT l
 | [],n,h=>by simp[szTf,sumT]
 |s::r,n,h=>by
  unfold szTf at h⊢
  split
  ·rename_i hc;rw[if_pos hc] at h;omega
  ·rename_i hc
   rw[if_neg hc] at h;rw[z0e r _ h,(yM hc).1];simp only[sumT]
   omega
theorem z29 {l:List Sp} {n:Int} (h:¬szT n l<0):szT n l=n -l.length -sumT l:=by
 unfold szT at h⊢
 split
 ·rename_i hc;rw[if_pos hc] at h;omega
 ·rename_i hc
  rw[if_neg hc] at h;exact z0e l _ h
theorem z2g:∀(l:List Sp) (k:Nat) (hk:k<l.length),l[k].ns.length +l[k].ls.length ≤sumT l
 | [],k,hk=>absurd hk (by simp)
 |s::r,0,hk=>by simp[sumT]
 |s::r,k+1,hk=>by
  have:=z2g r k (by simpa using hk);simp only[List.getElem_cons_succ,sumT]
  omega
theorem JY (k a b:Int) (vn vl:Value) (ns ls:List Pr) (n x:Int) (w:World) (hn:RP w vn ns) (hl:RP w vl ls) (h0:0≤n) (h1:n≤1000000000) (hx:Hid (szW n ns.length ls.length=x)):
  Calls Tryz.prog 222 #[.agg #[.int .i64 k,.int .i64 a,.int .i64 b,vn,vl],.int .i64 n] w fun e w'=>e= .returned (.int .i64 x)∧Below w.heap.size w w':=by
 by_cases hx0:x<0
 ·have hx1:x= -1:=by
   have:=hx.out;unfold szW at this
   split at this
   ·omega
   ·split at this<;>omega
  subst hx1
  go_enter Tryz.func222,Tryz.ntmps222
  go_wp2_with fail
  refine(qD _ _ ns ls n (-1) _ (hn.below (by exact bel_)) (hl.below (by exact bel_)) h0 h1 hx).mono ?_
  rintro e w1 ⟨rfl,hb1⟩;(first|(with_reducible have hcf1:=z8 hb1)|have hcf1:=bcell hb1);obtain⟨hc1,hf1⟩:=hcf1;have hz1:=hb1.size;(try simp at hz1);(try have hp1_0:=p0_ w w1);(try have hp1_1:=p1_ w w1);(try have hp1_2:=p2_ w w1);(try have hp1_3:=p3_ w w1)
  go_wp2;go_ret
  exact⟨rfl,by exact bel_⟩
 ·go_enter Tryz.func222,Tryz.ntmps222
  go_wp2_with fail
  refine(qD _ _ ns ls n x _ (hn.below (by exact bel_)) (hl.below (by exact bel_)) h0 h1 hx).mono ?_
  rintro e w1 ⟨rfl,hb1⟩;(first|(with_reducible have hcf1:=z8 hb1)|have hcf1:=bcell hb1);obtain⟨hc1,hf1⟩:=hcf1;have hz1:=hb1.size;(try simp at hz1);(try have hp1_0:=p0_ w w1);(try have hp1_1:=p1_ w w1);(try have hp1_2:=p2_ w w1);(try have hp1_3:=p3_ w w1)
  go_wp2;go_ret
  exact⟨rfl,by exact bel_⟩
theorem Jn (v:Value) (l:List Sp) (n x:Int) (w:World) (h:RT w v l) (h0:0≤n) (h1:n≤1000000000) (hx:Hid (szT n l=x)):
  Calls Tryz.prog 165 #[v,.int .i64 n] w fun e w'=>e= .returned (.int .i64 x)∧Below w.heap.size w w':=by
 obtain⟨A,c,rfl,hc,hm,hcell⟩:=h;unfold maxLen at hm
 by_cases hneg:n -(l.length:Int)<0
 ·have e:x= -1:=by rw[←hx.out];unfold szT;rw[if_pos hneg]
  subst e;clear hx hcell
  go_enter Tryz.func165,Tryz.ntmps165
  go_wp2;go_ret
  exact⟨rfl,Below.refl _ _⟩
 ·have hx':szTf (n -l.length) l=x:=by rw[←hx.out];unfold szT;rw[if_neg hneg]
  have HX:=Lib.hid hx';clear hx hx'
  go_enter Tryz.func165,Tryz.ntmps165
  go_wp2
  go_loopw [1,5] (fun y i wr=>∃(k:Nat) (m:Int),k≤l.length∧i= .int .i64 k∧y= .int .i64 m∧0≤m∧m≤1000000000∧Hid (szTf m (l.drop k)=x)∧Below w.heap.size w wr) (fun _ i _=>l.length -(intOf i).toNat)
  case atStart=>exact⟨0,_,Nat.zero_le _,rfl,rfl,by omega,by omega,Lib.hid (by simpa using HX.out),Below.refl _ _⟩
  case round=>
   obtain⟨k,m,hk,rfl,rfl,hm0,hm1,HT,hbl⟩:=hrel;have hsz:=hbl.size
   by_cases hlt:k<l.length
   ·obtain⟨b,off,rfl,hb,hcl⟩:=hcell (by omega)
    obtain⟨k0,k1,k2,vn,vl,k3,k4,hn,hl⟩:=hcl k hlt;have q0:=(hbl.cell (p:=⟨b,off+k*5,none⟩) hb).trans k0;have q1:=(hbl.cell (p:=⟨b,off+k*5+1,none⟩) hb).trans k1;have q2:=(hbl.cell (p:=⟨b,off+k*5+2,none⟩) hb).trans k2;have q3:=(hbl.cell (p:=⟨b,off+k*5+3,none⟩) hb).trans k3;have q4:=(hbl.cell (p:=⟨b,off+k*5+4,none⟩) hb).trans k4;have hn':=hn.below hbl;have hl':=hl.below hbl;have HT':=HT.out;rw[List.drop_eq_getElem_cons hlt] at HT';unfold szTf at HT';obtain⟨y,hy⟩:∃y,szW m l[k].ns.length l[k].ls.length =y:=⟨_,rfl⟩;have HY:=Lib.hid hy;rw[hy] at HT';clear k0 k1 k2 k3 k4 hcl hcell hn hl HT
    by_cases hy0:y<0
    ·rw[if_pos hy0] at HT'
     subst HT';clear hy
     go_wp2_with fail
     refine(JY _ _ _ _ _ _ _ m y _ hn' hl' hm0 hm1 HY).mono ?_
     rintro e w2 ⟨rfl,hb2⟩;have hbl2:Below w.heap.size w w2:=hbl.trans (hb2.mono hsz);clear hb2;go_wp2;go_ret
     exact⟨rfl,hbl2⟩
    ·rw[if_neg hy0] at HT'
     have HT2:=Lib.hid HT';have hyv:=(yM (by rw[hy];exact hy0)).1;rw[hy] at hyv;clear hy HT'
     go_wp2_with fail
     refine(JY _ _ _ _ _ _ _ m y _ hn' hl' hm0 hm1 HY).mono ?_
     rintro e w2 ⟨rfl,hb2⟩;have hbl2:Below w.heap.size w w2:=hbl.trans (hb2.mono hsz);clear hb2;have hy1:y≤1000000000:=by omega
     have hy2:0≤y:=by omega
     clear hyv;go_wp2;go_roundw
     case rel=>exact⟨k+1,y,by omega,by go_num,rfl,hy2,hy1,HT2,hbl2⟩
     case measure=>simp[intOf];omega
   ·have hkk:k=l.length:=by omega
    subst hkk;have e:=HT.out;rw[List.drop_length] at e;unfold szTf at e;subst e;clear hcell HT HX;go_wp2;go_ret
    exact⟨rfl,hbl⟩
def z64 (k a b:Int) (ns ls:List Pr) (w:World) (e:Ending) (w':World):Prop:=∃An cn Al cl,e= .returned (.agg #[.int .i64 k,.int .i64 a,.int .i64 b,.slice An ns.length cn,.slice Al ls.length cl])∧OwnW w.heap.size w' (.slice An ns.length cn) (.slice Al ls.length cl) ns ls∧Below w.heap.size w w'
theorem z1Y (k a b:Int) (vn vl:Value) (ns ls:List Pr) (w:World) (hn:RP w vn ns) (hl:RP w vl ls) (h1:ns.length≤1048576) (h2:ls.length≤1048576):
  Calls Tryz.prog 226 #[.agg #[.int .i64 k,.int .i64 a,.int .i64 b,vn,vl]] w (z64 k a b ns ls w):=by
 go_enter Tryz.func226,Tryz.ntmps226
 go_wp2_with fail
 refine(vR _ _ ns ls _ (hn.below (by exact bel_)) (hl.below (by exact bel_)) h1 h2).mono ?_
 rintro e w1 ⟨An,cn,Al,cl,rfl,ho1,hb1⟩;have hz1:=hb1.size;simp at hz1
 have hR1:Blk w1 (w.heap.size+1) 113 #[.int .i64 0,.int .i64 0,.int .i64 0,.slice none 0 0,.slice none 0 0]:=Blk.below ((Blk.newAt (by simp)).alloc _) hb1 sz_;have hS1:Blk w1 (w.heap.size+1+1) 113 #[.int .i64 k,.int .i64 a,.int .i64 b,.slice none 0 0,.slice none 0 0]:=Blk.below (Blk.newAt (by simp)) hb1 sz_;have ho1':OwnW (w.heap.size+1+1+1) w1 (.slice An ns.length cn) (.slice Al ls.length cl) ns ls:=by simpa using ho1
 have hbw1:Below w.heap.size w w1:=by exact bel_
 have n1:w.heap.size+1<w1.heap.size:=by omega
 have n2:w.heap.size+1+1<w1.heap.size:=by omega
 clear hb1 ho1;have hlow:=fun (p:Addr) (u:Value) (h:p.block<w.heap.size+1+1+1)=>h
 have HO:Hid (∀u3 u4 v0 v1 v2 v3 v4,OwnW w.heap.size (((((((w1.setCell ⟨w.heap.size+1+1,3,none⟩ u3).setCell ⟨w.heap.size+1+1,4,none⟩ u4).setCell ⟨w.heap.size+1,0,none⟩ v0).setCell ⟨w.heap.size+1,1,none⟩ v1).setCell ⟨w.heap.size+1,2,none⟩ v2).setCell ⟨w.heap.size+1,3,none⟩ v3).setCell ⟨w.heap.size+1,4,none⟩ v4) (.slice An ns.length cn) (.slice Al ls.length cl) ns ls):=Lib.hid (fun u3 u4 v0 v1 v2 v3 v4=>
  (((((((ho1'.setLow sz_ u3).setLow sz_ u4).setLow sz_ v0).setLow sz_ v1).setLow sz_ v2).setLow sz_ v3).setLow sz_ v4).mono (by omega))
 have HB:Hid (∀u3 u4 v0 v1 v2 v3 v4,Below w.heap.size w (((((((w1.setCell ⟨w.heap.size+1+1,3,none⟩ u3).setCell ⟨w.heap.size+1+1,4,none⟩ u4).setCell ⟨w.heap.size+1,0,none⟩ v0).setCell ⟨w.heap.size+1,1,none⟩ v1).setCell ⟨w.heap.size+1,2,none⟩ v2).setCell ⟨w.heap.size+1,3,none⟩ v3).setCell ⟨w.heap.size+1,4,none⟩ v4)):=Lib.hid (fun u3 u4 v0 v1 v2 v3 v4=>
  ((((((hbw1.setCell sz_ u3).setCell sz_ u4).setCell sz_ v0).setCell sz_ v1).setCell sz_ v2).setCell sz_ v3).setCell sz_ v4)
 clear ho1' hbw1 hlow;obtain⟨r_0,r_1,r_2,r_3,r_4,r_f0,r_f1,r_f2,r_f3,r_f4⟩:=hR1.b5;obtain⟨s_0,s_1,s_2,s_3,s_4,s_f0,s_f1,s_f2,s_f3,s_f4⟩:=hS1.b5;go_wp2;exact bodyPost_ret (v:= .agg #[.int .i64 k,.int .i64 a,.int .i64 b,.slice An ns.length cn,.slice Al ls.length cl]) (by simp[results,Tryz.results226,go_sem,r_0,r_1,r_2,r_3,r_4,s_0,s_1,s_2,s_3,s_4,n1,n2]) rfl ⟨_,_,_,_,rfl,HO.out _ _ _ _ _ _ _,HB.out _ _ _ _ _ _ _⟩
theorem ZE:(Tryz.prog.info? 113).map (fun i=>(i.zero,i.size,i.bytes))=some (some (.agg #[.int .i64 0,.int .i64 0,.int .i64 0,.slice none 0 0,.slice none 0 0]),5,72):=by kernel_rfl
def zSF:SF:=(⟨0,0,0,[],[]⟩,.slice none 0 0,.slice none 0 0)
theorem made5 (n:Nat):(madeCells #[.int .i64 0,.int .i64 0,.int .i64 0,.slice none 0 0,.slice none 0 0] (n*5)).toList =(List.replicate n zSF).flatMap sfc:=by
 apply List.ext_getElem?
 intro j
 by_cases hj:j<n*5
 ·have h1:=qk sfc 5 (fun _=>rfl) (List.replicate n zSF) (j/5) (j%5) (by simp;omega) (by omega)
  rw[show j/5*5+j%5=j by omega] at h1;rw[h1];simp only[madeCells,Array.toList_map,List.getElem?_map,Array.toList_range,List.getElem?_range hj,Option.map_some]
  show some (#[Value.int .i64 0,.int .i64 0,.int .i64 0,.slice none 0 0,.slice none 0 0][j%5]!)=_
  have:j%5=0∨j%5=1∨j%5=2∨j%5=3∨j%5=4:=by omega
  rcases this with h|h|h|h|h<;>rw[h]<;>simp[sfc,zSF]
 ·rw[List.getElem?_eq_none (by simp[madeCells];omega),List.getElem?_eq_none (by rw[zS sfc 5 (fun _=>rfl)];simp;omega)]
theorem JL (k:Nat):¬zl (.slice none 0 0) (.slice none 0 0) k:=by
 rintro(h|h)<;>simp[Value.ownBlock] at h
theorem OwnT.zero {base:Nat} {w:World} {v:Value} {n:Nat} (h:w.ownsRow base 113 5 v n ((List.replicate n zSF).flatMap sfc)):OwnT base w v (List.replicate n zSF):=by
 refine⟨by simpa using h,fun k hk=>?_,fun k hk b _=>?_,fun i j hi hj _ b hb=>?_⟩
 ·rw[List.getElem_replicate]
  exact⟨OwnP.nil _ _ _,OwnP.nil _ _ _,fun k hk=>by simp[zSF,Value.ownBlock] at hk⟩
 ·rw[List.getElem_replicate]
  exact JL b
 ·rw[List.getElem_replicate] at hb
  exact absurd hb (JL b)
def RetT (l:List Sp) (w:World) (e:Ending) (w':World):Prop:=∃A c fs,e= .returned (.slice A l.length c)∧fs.map Prod.fst=l∧OwnT w.heap.size w' (.slice A l.length c) fs∧Below w.heap.size w w'
theorem Xm (v:Value) (l:List Sp) (w:World) (h:RT w v l) (hle:l.length≤1048576) (hws:∀k (hk:k<l.length),l[k].ns.length ≤1048576∧l[k].ls.length ≤1048576):
  Calls Tryz.prog 169 #[v] w (RetT l w):=by
 obtain⟨A,c,rfl,hc,hm,hcell⟩:=h;clear hm;obtain⟨i0,hi,hz0,hz1,hz2⟩:=info_parts ZE
 go_enter Tryz.func169,Tryz.ntmps169
 go_wp2_with (at_make;refine wpList_make_full _ rfl _ _ 28 rfl w.heap.size 113 i0 (.agg #[.int .i64 0,.int .i64 0,.int .i64 0,.slice none 0 0,.slice none 0 0]) 5 Tryz.underlying28 hi hz0 hz1 .i64 .i64 _ _ l.length rfl rfl rfl rfl (by rw[hz2];omega) (by unfold maxLen;omega) (Nat.le_refl _) ?_)
 intro w1 hown1 hgr1;have hb1:Below w.heap.size w w1:=(Below.refl _ _).grown hgr1 (Nat.le_refl _) (by intro k hk;cases hk)
 have hown:OwnT w.heap.size w1 (.slice (some ⟨w.heap.size,0,none⟩) l.length l.length) (List.replicate l.length zSF):=by
  exact OwnT.zero (by rw[←made5];exact hown1)
 have hw1:w.heap.size<w1.heap.size:=(World.ownsRow.lt hown1 w.heap.size rfl).2;have HO1:=Lib.hid hown;clear hown1 hown hgr1 hz0 hz1 hz2 hi;go_wp2
 go_loopw [4] (fun i wr=>∃(k:Nat) (fs:List SF),k≤l.length∧i= .int .i64 k∧fs.length=k∧Hid (fs.map Prod.fst=l.take k)∧Hid (OwnT w.heap.size wr (.slice (some ⟨w.heap.size,0,none⟩) l.length l.length) (fs++List.replicate (l.length -k) zSF))∧Below w.heap.size w wr∧w.heap.size<wr.heap.size) (fun i _=>l.length -(intOf i).toNat)
 case atStart=>exact⟨0,[],Nat.zero_le _,rfl,rfl,Lib.hid (by simp),Lib.hid (by simpa using HO1.out),hb1,hw1⟩
 case round=>
  obtain⟨k,fs,hk,rfl,hfl,HM,HO,hbl,hwl⟩:=hrel;have hsz:=hbl.size;clear HO1 hb1 hw1
  by_cases hlt:k<l.length
  ·obtain⟨b,off,rfl,hb,hcl⟩:=hcell (by omega)
   obtain⟨k0,k1,k2,vn,vl,k3,k4,hn,hl⟩:=hcl k hlt;obtain⟨hw1,hw2⟩:=hws k hlt;obtain⟨Av,cv,ev,_⟩:=hn.form;obtain⟨Au,cu,eu,_⟩:=hl.form;subst ev eu;have q0:=(hbl.cell (p:=⟨b,off+k*5,none⟩) hb).trans k0;have q1:=(hbl.cell (p:=⟨b,off+k*5+1,none⟩) hb).trans k1;have q2:=(hbl.cell (p:=⟨b,off+k*5+2,none⟩) hb).trans k2;have q3:=(hbl.cell (p:=⟨b,off+k*5+3,none⟩) hb).trans k3;have q4:=(hbl.cell (p:=⟨b,off+k*5+4,none⟩) hb).trans k4;have hn':=hn.below hbl;have hl':=hl.below hbl;have hsk:Hid (l.take (k+1)=l.take k++[l[k]]):=Lib.hid (List.take_succ_eq_append_getElem hlt);generalize l[k]=s at*;clear k0 k1 k2 k3 k4 hcl hcell hn hl hws
   go_wp2_with fail
   refine(z1Y s.k s.a s.b _ _ s.ns s.ls _ hn' hl' hw1 hw2).mono ?_
   rintro e w2 ⟨An,cn,Al,cl,rfl,ho2,hb2⟩;have hsz2:=hb2.size;have hbl2:Below w.heap.size w w2:=hbl.trans (hb2.mono hsz);have hwl2:w.heap.size<w2.heap.size:=by omega
   have hT:=HO.out.kept hb2;have hlen:(fs++List.replicate (l.length -k) zSF).length =l.length:=by simp;omega
   have hkq:k<(fs++List.replicate (l.length -k) zSF).length :=by omega
   have hzk:(fs++List.replicate (l.length -k) zSF)[k]=zSF:=by
    rw[List.getElem_append_right (by omega),List.getElem_replicate]
   have hrow:=hT.row;rw[hlen] at hrow
   have hset:(fs++List.replicate (l.length -k) zSF).set k (s,.slice An s.ns.length cn,.slice Al s.ls.length cl)=(fs++[(s,.slice An s.ns.length cn,.slice Al s.ls.length cl)])++List.replicate (l.length -(k+1)) zSF:=by
    rw[List.set_append,if_neg (by omega),show l.length -k=(l.length -(k+1))+1 by omega,List.replicate_succ,hfl,Nat.sub_self,List.set_cons_zero,List.append_assoc];rfl
   have hlt2:=ho2.lt;have hltT:=HO.out.lt;have x0:=hrow.cellAt (k*5+0) (by omega);have x1:=hrow.cellAt (k*5+1) (by omega);have x2:=hrow.cellAt (k*5+2) (by omega);have x3:=hrow.cellAt (k*5+3) (by omega);have x4:=hrow.cellAt (k*5+4) (by omega);rw[qk sfc 5 (fun _=>rfl) _ k _ hkq (by omega),hzk] at x0 x1 x2 x3 x4;simp only[sfc,zSF,Nat.add_zero,List.getElem?_cons_zero,List.getElem?_cons_succ] at x0 x1 x2 x3 x4
   have f0:=hrow.frozenAt (k*5);have f1:=hrow.frozenAt (k*5+1);have f2:=hrow.frozenAt (k*5+2);have f3:=hrow.frozenAt (k*5+3);have f4:=hrow.frozenAt (k*5+4);obtain⟨r0,t0⟩:=hrow.stored (k*5+0) (.int .i64 s.k);obtain⟨r1,t1⟩:=r0.stored (k*5+1) (.int .i64 s.a);obtain⟨r2,t2⟩:=r1.stored (k*5+2) (.int .i64 s.b);obtain⟨r3,t3⟩:=r2.stored (k*5+3) (.slice An s.ns.length cn);obtain⟨r4,t4⟩:=r3.stored (k*5+4) (.slice Al s.ls.length cl)
   rw[jp _ k 0 _ (⟨s.k,0,0,[],[]⟩,.slice none 0 0,.slice none 0 0) hkq (by omega) (by rw[hzk];rfl),
    jp _ k 1 _ (⟨s.k,s.a,0,[],[]⟩,.slice none 0 0,.slice none 0 0) (by rw[List.length_set];exact hkq) (by omega) (by rw[List.getElem_set_self];rfl),
    jp _ k 2 _ (⟨s.k,s.a,s.b,[],[]⟩,.slice none 0 0,.slice none 0 0) (by rw[List.length_set,List.length_set];exact hkq) (by omega) (by rw[List.getElem_set_self];rfl),
    jp _ k 3 _ (⟨s.k,s.a,s.b,[],[]⟩,.slice An s.ns.length cn,.slice none 0 0) (by rw[List.length_set,List.length_set,List.length_set];exact hkq) (by omega) (by rw[List.getElem_set_self];rfl),
    jp _ k 4 _ (s,.slice An s.ns.length cn,.slice Al s.ls.length cl) (by rw[List.length_set,List.length_set,List.length_set,List.length_set];exact hkq) (by omega) (by rw[List.getElem_set_self];rfl),
    List.set_set,List.set_set,List.set_set,List.set_set] at r4
   have hput:=hT.put hkq hlen.symm r4 (Turns.trans (Turns.trans (Turns.trans (Turns.trans (Turns.ofGrown t0 (fun k hk=>by cases hk;rfl)) (Turns.ofGrown t1 (fun k hk=>by cases hk;rfl))) (Turns.ofGrown t2 (fun k hk=>by cases hk;rfl))) (Turns.ofGrown t3 (fun k hk=>by cases hk;rfl))) (Turns.ofGrown t4 (fun k hk=>by cases hk;rfl)))
    (f:=(s,.slice An s.ns.length cn,.slice Al s.ls.length cl)) (ho2.mono hsz) (fun hb=>by have:=(hlt2 _ hb).1;omega) (fun j hj _ b hb hb'=>by
     have h1:=(hlt2 _ hb).1;have h2:=(hltT b (.inr ⟨j,hj,hb'⟩)).2;omega)
   rw[hset] at hput;have HP:=Lib.hid hput;have HB:=Lib.hid (((((hbl2.setCell (p:=⟨w.heap.size,k*5+0,none⟩) (Nat.le_refl _) (.int .i64 s.k)).setCell (p:=⟨w.heap.size,k*5+1,none⟩) (Nat.le_refl _) (.int .i64 s.a)).setCell (p:=⟨w.heap.size,k*5+2,none⟩) (Nat.le_refl _) (.int .i64 s.b)).setCell (p:=⟨w.heap.size,k*5+3,none⟩) (Nat.le_refl _) (.slice An s.ns.length cn)).setCell (p:=⟨w.heap.size,k*5+4,none⟩) (Nat.le_refl _) (.slice Al s.ls.length cl));rw[Nat.add_zero] at HP HB;have HM2:Hid ((fs++[(s,Value.slice An s.ns.length cn,Value.slice Al s.ls.length cl)]).map Prod.fst=l.take (k+1)):=Lib.hid (by rw[List.map_append,HM.out,hsk.out];rfl);clear r0 r1 r2 r3 r4 t0 t1 t2 t3 t4 hput hT hrow hset hzk hb2 ho2 hlt2 hltT HM HO hsk hbl hbl2 hkq hlen q0 q1 q2 q3 q4;go_wp2;go_roundw
   case rel=>exact⟨k+1,_,by omega,by go_num,by simp;omega,HM2,HP,HB.out,by simp;omega⟩
   case measure=>simp[intOf];omega
  ·have hkk:k=l.length:=by omega
   have hfs:fs++List.replicate (l.length -k) zSF=fs:=by rw[hkk];simp
   rw[hfs] at HO;rw[hkk,List.take_length] at HM;clear hcell;go_wp2;go_ret
   exact⟨_,_,fs,rfl,HM.out,HO.out,hbl⟩
theorem z0X (k a b:Int) (vn vl un ul:Value) (ns ls:List Pr) (w:World) (hn:RP w vn ns) (hl:RP w vl ls) (hn':RP w un ns) (hl':RP w ul ls):
  Calls Tryz.prog 230 #[.agg #[.int .i64 k,.int .i64 a,.int .i64 b,vn,vl],.agg #[.int .i64 k,.int .i64 a,.int .i64 b,un,ul]] w fun e w'=>e= .returned (.bool true)∧Below w.heap.size w w':=by
 go_enter Tryz.func230,Tryz.ntmps230
 go_wp2_with fail
 refine(vD _ _ _ _ ns ls _ (hn.below (by exact bel_)) (hl.below (by exact bel_)) (hn'.below (by exact bel_)) (hl'.below (by exact bel_))).mono ?_
 rintro e w1 ⟨rfl,hb1⟩;(first|(with_reducible have hcf1:=z8 hb1)|have hcf1:=bcell hb1);obtain⟨hc1,hf1⟩:=hcf1;have hz1:=hb1.size;(try simp at hz1);(try have hp1_0:=p0_ w w1);(try have hp1_1:=p1_ w w1);(try have hp1_2:=p2_ w w1);(try have hp1_3:=p3_ w w1)
 go_wp2;go_ret
 exact⟨rfl,by exact bel_⟩
theorem z0d (v u:Value) (l:List Sp) (w:World) (hv:RT w v l) (hu:RT w u l):
  Calls Tryz.prog 173 #[v,u] w fun e w'=>e= .returned (.bool true)∧Below w.heap.size w w':=by
 obtain⟨A,c,rfl,hc,hm,hcell⟩:=hv;obtain⟨A',c',rfl,hc',hm',hcell'⟩:=hu;unfold maxLen at hm hm'
 go_enter Tryz.func173,Tryz.ntmps173
 go_wp2
 go_loopw [5] (fun i wr=>∃k:Nat,k≤l.length∧i= .int .i64 k∧Below w.heap.size w wr) (fun i _=>l.length -(intOf i).toNat)
 case atStart=>exact⟨0,Nat.zero_le _,rfl,Below.refl _ _⟩
 case round=>
  obtain⟨k,hk,rfl,hbl⟩:=hrel;have hsz:=hbl.size
  by_cases hlt:k<l.length
  ·obtain⟨b,off,rfl,hb,hcl⟩:=hcell (by omega)
   obtain⟨k0,k1,k2,vn,vl,k3,k4,hn,hl⟩:=hcl k hlt;have q0:=(hbl.cell (p:=⟨b,off+k*5,none⟩) hb).trans k0;have q1:=(hbl.cell (p:=⟨b,off+k*5+1,none⟩) hb).trans k1;have q2:=(hbl.cell (p:=⟨b,off+k*5+2,none⟩) hb).trans k2;have q3:=(hbl.cell (p:=⟨b,off+k*5+3,none⟩) hb).trans k3;have q4:=(hbl.cell (p:=⟨b,off+k*5+4,none⟩) hb).trans k4;obtain⟨b',off',rfl,hb',hcl'⟩:=hcell' (by omega);obtain⟨j0,j1,j2,un,ul,j3,j4,hn2,hl2⟩:=hcl' k hlt;have p0:=(hbl.cell (p:=⟨b',off'+k*5,none⟩) hb').trans j0;have p1:=(hbl.cell (p:=⟨b',off'+k*5+1,none⟩) hb').trans j1;have p2:=(hbl.cell (p:=⟨b',off'+k*5+2,none⟩) hb').trans j2;have p3:=(hbl.cell (p:=⟨b',off'+k*5+3,none⟩) hb').trans j3;have p4:=(hbl.cell (p:=⟨b',off'+k*5+4,none⟩) hb').trans j4;have hi1:(0:Int)≤(k:Int):=by omega
   have hi2:(k:Int)<(l.length:Int):=by omega
   have hn3:=Lib.hid (hn.below hbl);have hl3:=Lib.hid (hl.below hbl);have hn4:=Lib.hid (hn2.below hbl);have hl4:=Lib.hid (hl2.below hbl);generalize l[k]=s at*;clear k0 k1 k2 k3 k4 hcl hcell j0 j1 j2 j3 j4 hcl' hcell' hn hl hn2 hl2;go_wp2
   go_still_tail 8,(by kernel_rfl)
   go_wp2_with fail
   refine(z0X _ _ _ _ _ _ _ s.ns s.ls _ (hn3.out.below (by exact bel_)) (hl3.out.below (by exact bel_)) (hn4.out.below (by exact bel_)) (hl4.out.below (by exact bel_))).mono ?_
   rintro e w2 ⟨rfl,hb2⟩;have hbl2:Below w.heap.size w w2:=hbl.trans ((show Below wr.heap.size wr w2 from⟨hb2.os,hb2.tape,hb2.output,hb2.size,hb2.block⟩).mono hsz);clear hb2;go_wp2;go_roundw
   case rel=>exact⟨k+1,by omega,by go_num,hbl2⟩
   case measure=>simp[intOf];omega
  ·clear hcell hcell'
   go_wp2;go_ret
   exact⟨rfl,hbl⟩
def szD (n:Int) (D:Dr):Int:=
 if szW n D.fn.length D.fl.length<0 then -1 else if szW (szW n D.fn.length D.fl.length) D.nn.length D.nl.length<0 then -1 else szT (szW (szW n D.fn.length D.fl.length) D.nn.length D.nl.length) D.ss
structure DrLe (D:Dr):Prop where
 fn:D.fn.length≤1048576
 fl:D.fl.length≤1048576
 nn:D.nn.length≤1048576
 nl:D.nl.length≤1048576
 ss:D.ss.length≤1048576
 ws:∀k (hk:k<D.ss.length),D.ss[k].ns.length ≤1048576∧D.ss[k].ls.length ≤1048576
 sum:sumT D.ss≤1048576
theorem z5S {D:Dr} (h:¬szD 1048576 D<0):DrLe D:=by
 unfold szD at h
 split at h
 ·omega
 ·rename_i h1
  split at h
  ·omega
  ·rename_i h2
   have e1:=yM h1;have e2:=yM h2;have e3:=z29 h;have hs:(sumT D.ss:Int)+D.ss.length≤1048576:=by omega
   refine⟨by omega,by omega,by omega,by omega,by omega,fun k hk=>?_,by omega⟩
   have:=z2g D.ss k hk;omega
theorem xg (v0 v1 v2 v3 v4:Value) (D:Dr) (x:Int) (w:World) (h:RD w v0 v1 v2 v3 v4 D) (hx:Hid (szD 1048576 D=x)):
  Calls Tryz.prog 90 #[.agg #[v0,v1,v2,v3,v4],.int .i64 1048576] w fun e w'=>e= .returned (.int .i64 x)∧Below w.heap.size w w':=by
 obtain⟨y,hy⟩:∃y,szW 1048576 D.fn.length D.fl.length=y:=⟨_,rfl⟩;have HY:=Lib.hid hy;have hfn:=h.fn;have hfl:=h.fl
 by_cases hy0:y<0
 ·have hx':=hx.out
  unfold szD at hx';rw[hy,if_pos hy0] at hx';subst hx';clear hy hx
  go_enter Tryz.func90,Tryz.ntmps90
  go_wp2_with fail
  refine(qD _ _ D.fn D.fl 1048576 y _ (hfn.below (by exact bel_)) (hfl.below (by exact bel_)) (by omega) (by omega) HY).mono ?_
  rintro e w1 ⟨rfl,hb1⟩;(first|(with_reducible have hcf1:=z8 hb1)|have hcf1:=bcell hb1);obtain⟨hc1,hf1⟩:=hcf1;have hz1:=hb1.size;(try simp at hz1);(try have hp1_0:=p0_ w w1);(try have hp1_1:=p1_ w w1);(try have hp1_2:=p2_ w w1);(try have hp1_3:=p3_ w w1)
  go_wp2;go_ret
  exact⟨rfl,by exact bel_⟩
 ·obtain⟨z,hz⟩:∃z,szW y D.nn.length D.nl.length=z:=⟨_,rfl⟩
  have HZ:=Lib.hid hz;have hnn:=h.nn;have hnl:=h.nl;have hyv:=yM (show ¬szW 1048576 D.fn.length D.fl.length<0 by rw[hy];exact hy0);rw[hy] at hyv;have hy1:y≤1048576:=by omega
  clear hyv
  by_cases hz0:z<0
  ·have hx':=hx.out
   unfold szD at hx';rw[hy,if_neg hy0,hz,if_pos hz0] at hx';subst hx';clear hy hz hx
   go_enter Tryz.func90,Tryz.ntmps90
   go_wp2_with fail
   refine(qD _ _ D.fn D.fl 1048576 y _ (hfn.below (by exact bel_)) (hfl.below (by exact bel_)) (by omega) (by omega) HY).mono ?_
   rintro e w1 ⟨rfl,hb1⟩;have hz1:=hb1.size;have hV1:Blk w1 w.heap.size 58 #[v0,v1,v2,v3,v4]:=Blk.below (Blk.newAt rfl) hb1 sz_;have hbw1:Below w.heap.size w w1:=by exact bel_
   clear hb1;obtain⟨a_0,a_1,a_2,a_3,a_4⟩:=hV1.c5
   go_wp2_with fail
   refine(qD _ _ D.nn D.nl y z _ (hnn.below hbw1) (hnl.below hbw1) (by omega) (by omega) HZ).mono ?_
   rintro e w2 ⟨rfl,hb2⟩;have hbw2:Below w.heap.size w w2:=hbw1.trans (hb2.mono hbw1.size);go_wp2;go_ret
   exact⟨rfl,hbw2⟩
  ·obtain⟨u,hu⟩:∃u,szT z D.ss=u:=⟨_,rfl⟩
   have HU:=Lib.hid hu;have hss:=h.ss;have hzv:=yM (show ¬szW y D.nn.length D.nl.length<0 by rw[hz];exact hz0);rw[hz] at hzv;have hz1:z≤1048576:=by omega
   clear hzv;have hx':=hx.out;unfold szD at hx';rw[hy,if_neg hy0,hz,if_neg hz0,hu] at hx';subst hx';have hun:u<0→u= -1:=fun h0=>by rw[←hu];exact z5q _ _ (by rw[hu];exact h0)
   by_cases hu0:u<0
   ·have e:=hun hu0
    subst e;clear hy hz hx hu hun
    go_enter Tryz.func90,Tryz.ntmps90
    go_wp2_with fail
    refine(qD _ _ D.fn D.fl 1048576 y _ (hfn.below (by exact bel_)) (hfl.below (by exact bel_)) (by omega) (by omega) HY).mono ?_
    rintro e w1 ⟨rfl,hb1⟩;have hzz1:=hb1.size;have hV1:Blk w1 w.heap.size 58 #[v0,v1,v2,v3,v4]:=Blk.below (Blk.newAt rfl) hb1 sz_;have hbw1:Below w.heap.size w w1:=by exact bel_
    clear hb1;obtain⟨a_0,a_1,a_2,a_3,a_4⟩:=hV1.c5
    go_wp2_with fail
    refine(qD _ _ D.nn D.nl y z _ (hnn.below hbw1) (hnl.below hbw1) (by omega) (by omega) HZ).mono ?_
    rintro e w2 ⟨rfl,hb2⟩;have hV2:=hV1.below hb2 hV1.lt;have hbw2:Below w.heap.size w w2:=hbw1.trans (hb2.mono hbw1.size);clear hb2 hV1 a_0 a_1 a_2 a_3 a_4;obtain⟨a_0,a_1,a_2,a_3,a_4⟩:=hV2.c5
    go_wp2_with fail
    refine(Jn _ D.ss z (-1) _ (hss.below hbw2) (by omega) (by omega) HU).mono ?_
    rintro e w3 ⟨rfl,hb3⟩;have hbw3:Below w.heap.size w w3:=hbw2.trans (hb3.mono hbw2.size);go_wp2;go_ret
    exact⟨rfl,hbw3⟩
   ·clear hy hz hx hu hun
    go_enter Tryz.func90,Tryz.ntmps90
    go_wp2_with fail
    refine(qD _ _ D.fn D.fl 1048576 y _ (hfn.below (by exact bel_)) (hfl.below (by exact bel_)) (by omega) (by omega) HY).mono ?_
    rintro e w1 ⟨rfl,hb1⟩;have hzz1:=hb1.size;have hV1:Blk w1 w.heap.size 58 #[v0,v1,v2,v3,v4]:=Blk.below (Blk.newAt rfl) hb1 sz_;have hbw1:Below w.heap.size w w1:=by exact bel_
    clear hb1;obtain⟨a_0,a_1,a_2,a_3,a_4⟩:=hV1.c5
    go_wp2_with fail
    refine(qD _ _ D.nn D.nl y z _ (hnn.below hbw1) (hnl.below hbw1) (by omega) (by omega) HZ).mono ?_
    rintro e w2 ⟨rfl,hb2⟩;have hV2:=hV1.below hb2 hV1.lt;have hbw2:Below w.heap.size w w2:=hbw1.trans (hb2.mono hbw1.size);clear hb2 hV1 a_0 a_1 a_2 a_3 a_4;obtain⟨a_0,a_1,a_2,a_3,a_4⟩:=hV2.c5
    go_wp2_with fail
    refine(Jn _ D.ss z u _ (hss.below hbw2) (by omega) (by omega) HU).mono ?_
    rintro e w3 ⟨rfl,hb3⟩;have hbw3:Below w.heap.size w w3:=hbw2.trans (hb3.mono hbw2.size);go_wp2;go_ret
    exact⟨rfl,hbw3⟩
structure OwnD (base:Nat) (w:World) (a b c d e:Value) (D:Dr) (fs:List SF):Prop where
 first:OwnW base w a b D.fn D.fl
 now:OwnW base w c d D.nn D.nl
 ss:OwnT base w e fs
 map:fs.map Prod.fst=D.ss
 f_n:∀k,zl a b k→¬zl c d k
 f_s:∀k,zl a b k→¬yd e fs k
 n_s:∀k,zl c d k→¬yd e fs k
def qw (a b c d e:Value) (fs:List SF) (k:Nat):Prop:=zl a b k∨zl c d k∨yd e fs k
section
variable {base:Nat} {w w':World} {a b c d e:Value} {D:Dr} {fs:List SF}
theorem OwnD.lt (h:OwnD base w a b c d e D fs) (k:Nat) (hk:qw a b c d e fs k):base≤k∧k<w.heap.size:=by
 rcases hk with hk|hk|hk
 ·exact h.first.lt k hk
 ·exact h.now.lt k hk
 ·exact h.ss.lt k hk
theorem OwnD.turned {S:Nat→Prop} (h:OwnD base w a b c d e D fs) (hb:Turns S w w') (hs:∀k,qw a b c d e fs k→¬S k):OwnD base w' a b c d e D fs:=
 ⟨h.first.turned hb (fun k hk=>hs k (.inl hk)),h.now.turned hb (fun k hk=>hs k (.inr (.inl hk))),h.ss.turned hb (fun k hk=>hs k (.inr (.inr hk))),h.map,h.f_n,h.f_s,h.n_s⟩
theorem OwnD.kept (h:OwnD base w a b c d e D fs) (hb:Below w.heap.size w w'):OwnD base w' a b c d e D fs:=
 h.turned (S:=fun _=>False) (Turns.ofBelow hb) (fun _ _ h=>h)
theorem OwnD.alloc (h:OwnD base w a b c d e D fs) (o:Obj):OwnD base (w.alloc o) a b c d e D fs:=h.kept ((Below.refl _ _).alloc (Nat.le_refl _) o)
theorem OwnD.reads (h:OwnD base w a b c d e D fs):RD w a b c d e D:=
 ⟨h.first.1.reads,h.first.2.1.reads,h.now.1.reads,h.now.2.1.reads,by have:=h.ss.reads;rw[h.map] at this;exact this⟩
end
def RetD (D:Dr) (w:World) (e:Ending) (w':World):Prop:=∃A0 c0 A1 c1 A2 c2 A3 c3 A4 c4 fs,
 e= .returned (.agg #[.slice A0 D.fn.length c0,.slice A1 D.fl.length c1,.slice A2 D.nn.length c2,.slice A3 D.nl.length c3,.slice A4 D.ss.length c4])∧
 OwnD w.heap.size w' (.slice A0 D.fn.length c0) (.slice A1 D.fl.length c1) (.slice A2 D.nn.length c2) (.slice A3 D.nl.length c3) (.slice A4 D.ss.length c4) D fs∧Below w.heap.size w w'
theorem z0F (v0 v1 v2 v3 v4:Value) (D:Dr) (w:World) (h:RD w v0 v1 v2 v3 v4 D) (hle:DrLe D):
  Calls Tryz.prog 94 #[.agg #[v0,v1,v2,v3,v4]] w (RetD D w):=by
 have hfn:=h.fn;have hfl:=h.fl
 go_enter Tryz.func94,Tryz.ntmps94
 go_wp2_with fail
 refine(vR _ _ D.fn D.fl _ (hfn.below (by exact bel_)) (hfl.below (by exact bel_)) hle.fn hle.fl).mono ?_
 rintro e w1 ⟨A0,c0,A1,c1,rfl,ho1,hb1⟩;have hz1:=hb1.size;simp at hz1
 have hX1:Blk w1 w.heap.size 58 #[v0,v1,v2,v3,v4]:=Blk.below (((Blk.newAt rfl).alloc _).alloc _) hb1 sz_;have hR1:Blk w1 (w.heap.size+1) 30 #[.slice none 0 0,.slice none 0 0,.slice none 0 0,.slice none 0 0,.slice none 0 0]:=Blk.below ((Blk.newAt (by simp)).alloc _) hb1 sz_;have hS1:Blk w1 (w.heap.size+1+1) 30 #[.slice none 0 0,.slice none 0 0,.slice none 0 0,.slice none 0 0,.slice none 0 0]:=Blk.below (Blk.newAt (by simp)) hb1 sz_;have hO1:OwnW (w.heap.size+1+1+1) w1 (.slice A0 D.fn.length c0) (.slice A1 D.fl.length c1) D.fn D.fl:=by simpa using ho1
 have hbw1:Below w.heap.size w w1:=by exact bel_
 clear hb1 ho1;obtain⟨x_0,x_1,x_2,x_3,x_4,x_f0,x_f1,x_f2,x_f3,x_f4⟩:=hX1.b5;obtain⟨s_0,s_1,s_2,s_3,s_4,s_f0,s_f1,s_f2,s_f3,s_f4⟩:=hS1.b5;have hXlt:=hX1.lt;have hSlt:=hS1.lt
 go_wp2_with fail
 obtain⟨u1,hu1⟩:∃u1,u1=((w1.setCell ⟨w.heap.size+1+1,0,none⟩ (.slice A0 D.fn.length c0)).setCell ⟨w.heap.size+1+1,1,none⟩ (.slice A1 D.fl.length c1)):=⟨_,rfl⟩;rw[←hu1];have hy1:u1.heap.size=w1.heap.size:=by rw[hu1];simp
 have hX1':Blk u1 w.heap.size 58 #[v0,v1,v2,v3,v4]:=hu1▸(hX1.far (p:=⟨w.heap.size+1+1,0,none⟩) (by show _≠w.heap.size+1+1;omega) _).far (p:=⟨w.heap.size+1+1,1,none⟩) (by show _≠w.heap.size+1+1;omega) _;have hR1':Blk u1 (w.heap.size+1) 30 #[.slice none 0 0,.slice none 0 0,.slice none 0 0,.slice none 0 0,.slice none 0 0]:=hu1▸(hR1.far (p:=⟨w.heap.size+1+1,0,none⟩) (by show _≠w.heap.size+1+1;omega) _).far (p:=⟨w.heap.size+1+1,1,none⟩) (by show _≠w.heap.size+1+1;omega) _;have hS1':Blk u1 (w.heap.size+1+1) 30 #[.slice A0 D.fn.length c0,.slice A1 D.fl.length c1,.slice none 0 0,.slice none 0 0,.slice none 0 0]:=hu1▸(hS1.set_ 0 _).set_ 1 _;have hO1':OwnW (w.heap.size+1+1+1) u1 (.slice A0 D.fn.length c0) (.slice A1 D.fl.length c1) D.fn D.fl:=hu1▸(hO1.setLow (p:=⟨w.heap.size+1+1,0,none⟩) (Nat.lt_succ_self _) _).setLow (p:=⟨w.heap.size+1+1,1,none⟩) (Nat.lt_succ_self _) _;have hbv1:Below w.heap.size w u1:=hu1▸(hbw1.setCell (p:=⟨w.heap.size+1+1,0,none⟩) sz_ _).setCell (p:=⟨w.heap.size+1+1,1,none⟩) sz_ _;clear hu1 hX1 hR1 hS1 hO1 hbw1 x_0 x_1 x_2 x_3 x_4 s_0 s_1 s_2 s_3 s_4 x_f0 x_f1 x_f2 x_f3 x_f4 s_f0 s_f1 s_f2 s_f3 s_f4 hXlt hSlt;refine(vR _ _ D.nn D.nl _ (h.nn.below hbv1) (h.nl.below hbv1) hle.nn hle.nl).mono ?_
 rintro e w2 ⟨A2,c2,A3,c3,rfl,ho2,hb2⟩;have hz2:=hb2.size;have hX2:=hX1'.below hb2 hX1'.lt;have hR2:=hR1'.below hb2 hR1'.lt;have hS2:=hS1'.below hb2 hS1'.lt;have hO2:=hO1'.kept hb2;have hlt1:=hO1'.lt;have hbw2:=hbv1.trans (hb2.mono hbv1.size);clear hb2 hX1' hR1' hS1' hO1' hbv1;obtain⟨x_0,x_1,x_2,x_3,x_4,x_f0,x_f1,x_f2,x_f3,x_f4⟩:=hX2.b5;obtain⟨s_0,s_1,s_2,s_3,s_4,s_f0,s_f1,s_f2,s_f3,s_f4⟩:=hS2.b5;have hXlt:=hX2.lt;have hSlt:=hS2.lt
 go_wp2_with fail
 obtain⟨u2,hu2⟩:∃u2,u2=((w2.setCell ⟨w.heap.size+1+1,2,none⟩ (.slice A2 D.nn.length c2)).setCell ⟨w.heap.size+1+1,3,none⟩ (.slice A3 D.nl.length c3)):=⟨_,rfl⟩;rw[←hu2];have hy2:u2.heap.size=w2.heap.size:=by rw[hu2];simp
 have hX2':Blk u2 w.heap.size 58 #[v0,v1,v2,v3,v4]:=hu2▸(hX2.far (p:=⟨w.heap.size+1+1,2,none⟩) (by show _≠w.heap.size+1+1;omega) _).far (p:=⟨w.heap.size+1+1,3,none⟩) (by show _≠w.heap.size+1+1;omega) _;have hR2':Blk u2 (w.heap.size+1) 30 #[.slice none 0 0,.slice none 0 0,.slice none 0 0,.slice none 0 0,.slice none 0 0]:=hu2▸(hR2.far (p:=⟨w.heap.size+1+1,2,none⟩) (by show _≠w.heap.size+1+1;omega) _).far (p:=⟨w.heap.size+1+1,3,none⟩) (by show _≠w.heap.size+1+1;omega) _;have hS2':Blk u2 (w.heap.size+1+1) 30 #[.slice A0 D.fn.length c0,.slice A1 D.fl.length c1,.slice A2 D.nn.length c2,.slice A3 D.nl.length c3,.slice none 0 0]:=hu2▸(hS2.set_ 2 _).set_ 3 _;have hO2':OwnW (w.heap.size+1+1+1) u2 (.slice A0 D.fn.length c0) (.slice A1 D.fl.length c1) D.fn D.fl:=hu2▸(hO2.setLow (p:=⟨w.heap.size+1+1,2,none⟩) (Nat.lt_succ_self _) _).setLow (p:=⟨w.heap.size+1+1,3,none⟩) (Nat.lt_succ_self _) _;have hN2':OwnW u1.heap.size u2 (.slice A2 D.nn.length c2) (.slice A3 D.nl.length c3) D.nn D.nl:=hu2▸(ho2.setLow (p:=⟨w.heap.size+1+1,2,none⟩) (by show w.heap.size+1+1<_;omega) _).setLow (p:=⟨w.heap.size+1+1,3,none⟩) (by show w.heap.size+1+1<_;omega) _;have hbv2:Below w.heap.size w u2:=hu2▸(hbw2.setCell (p:=⟨w.heap.size+1+1,2,none⟩) sz_ _).setCell (p:=⟨w.heap.size+1+1,3,none⟩) sz_ _;clear hu2 hX2 hR2 hS2 hO2 ho2 hbw2 x_0 x_1 x_2 x_3 x_4 s_0 s_1 s_2 s_3 s_4 x_f0 x_f1 x_f2 x_f3 x_f4 s_f0 s_f1 s_f2 s_f3 s_f4 hXlt hSlt
 refine(Xm _ D.ss _ (h.ss.below hbv2) hle.ss hle.ws).mono ?_
 rintro e w3 ⟨A4,c4,fs,rfl,hmap,ho3,hb3⟩;have hz3:=hb3.size;have hR3:=hR2'.below hb3 hR2'.lt;have hS3:=hS2'.below hb3 hS2'.lt;have hO3:=hO2'.kept hb3;have hN3:=hN2'.kept hb3;have hlt2:=hN2'.lt;have hbw3:=hbv2.trans (hb3.mono hbv2.size);have hlt3:=ho3.lt;have n1:w.heap.size+1<w3.heap.size:=hR3.lt;have n2:w.heap.size+1+1<w3.heap.size:=hS3.lt;clear hb3 hX2' hR2' hS2' hO2' hN2' hbv2
 have hH:∀(v w0 w1 w2 w3' w4:Value),Hid (OwnD w.heap.size (((((((w3.setCell ⟨w.heap.size+1+1,4,none⟩ v).setCell ⟨w.heap.size+1,0,none⟩ w0).setCell ⟨w.heap.size+1,1,none⟩ w1).setCell ⟨w.heap.size+1,2,none⟩ w2).setCell ⟨w.heap.size+1,3,none⟩ w3').setCell ⟨w.heap.size+1,4,none⟩ w4)) (.slice A0 D.fn.length c0) (.slice A1 D.fl.length c1) (.slice A2 D.nn.length c2) (.slice A3 D.nl.length c3) (.slice A4 D.ss.length c4) D fs):=by
  intro v w0 w1' w2' w3' w4
  have hD:OwnD w.heap.size w3 (.slice A0 D.fn.length c0) (.slice A1 D.fl.length c1) (.slice A2 D.nn.length c2) (.slice A3 D.nl.length c3) (.slice A4 D.ss.length c4) D fs:=
   ⟨hO3.mono (by omega),hN3.mono (by omega),ho3.mono (by omega),hmap,fun k h1 h2=>by have:=(hlt1 k h1).2;have:=(hlt2 k h2).1;omega,fun k h1 h2=>by have:=(hlt1 k h1).2;have:=(hlt3 k h2).1;omega,fun k h1 h2=>by have:=(hlt2 k h1).2;have:=(hlt3 k h2).1;omega⟩
  have hlo:∀k,qw (.slice A0 D.fn.length c0) (.slice A1 D.fl.length c1) (.slice A2 D.nn.length c2) (.slice A3 D.nl.length c3) (.slice A4 D.ss.length c4) fs k→w.heap.size+1+1<k:=by
   rintro k (hk|hk|hk)
   ·have:=(hlt1 k hk).1;omega
   ·have:=(hlt2 k hk).1;omega
   ·have:=(hlt3 k hk).1;omega
  have step:∀(W:World) (g j:Nat) (u:Value),g≤w.heap.size+1+1→OwnD w.heap.size W (.slice A0 D.fn.length c0) (.slice A1 D.fl.length c1) (.slice A2 D.nn.length c2) (.slice A3 D.nl.length c3) (.slice A4 D.ss.length c4) D fs→OwnD w.heap.size (W.setCell ⟨g,j,none⟩ u) (.slice A0 D.fn.length c0) (.slice A1 D.fl.length c1) (.slice A2 D.nn.length c2) (.slice A3 D.nl.length c3) (.slice A4 D.ss.length c4) D fs:=
   fun W g j u hg hW=>hW.turned (S:=fun b=>b=g) (Turns.ofGrown (qO W ⟨g,j,none⟩ u) (fun k hk=>by cases hk;rfl)) (fun b hb e=>by have:=hlo b hb;omega)
  exact Lib.hid (step _ _ _ _ (by omega) (step _ _ _ _ (by omega) (step _ _ _ _ (by omega) (step _ _ _ _ (by omega) (step _ _ _ _ (by omega) (step _ _ _ _ (by omega) hD))))))
 have hB:∀(v w0 w1 w2 w3' w4:Value),Hid (Below w.heap.size w (((((((w3.setCell ⟨w.heap.size+1+1,4,none⟩ v).setCell ⟨w.heap.size+1,0,none⟩ w0).setCell ⟨w.heap.size+1,1,none⟩ w1).setCell ⟨w.heap.size+1,2,none⟩ w2).setCell ⟨w.heap.size+1,3,none⟩ w3').setCell ⟨w.heap.size+1,4,none⟩ w4))):=fun v w0 w1 w2 w3' w4=>Lib.hid
  ((((((hbw3.setCell (p:=⟨w.heap.size+1+1,4,none⟩) sz_ v).setCell (p:=⟨w.heap.size+1,0,none⟩) sz_ w0).setCell (p:=⟨w.heap.size+1,1,none⟩) sz_ w1).setCell (p:=⟨w.heap.size+1,2,none⟩) sz_ w2).setCell (p:=⟨w.heap.size+1,3,none⟩) sz_ w3').setCell (p:=⟨w.heap.size+1,4,none⟩) sz_ w4)
 clear hO3 hN3 ho3 hbw3 hlt1 hlt2 hlt3;obtain⟨r_0,r_1,r_2,r_3,r_4,r_f0,r_f1,r_f2,r_f3,r_f4⟩:=hR3.b5;obtain⟨s_0,s_1,s_2,s_3,s_4,s_f0,s_f1,s_f2,s_f3,s_f4⟩:=hS3.b5;go_wp2;exact bodyPost_ret (v:= .agg #[.slice A0 D.fn.length c0,.slice A1 D.fl.length c1,.slice A2 D.nn.length c2,.slice A3 D.nl.length c3,.slice A4 D.ss.length c4]) (by simp[results,Tryz.results94,go_sem,r_0,r_1,r_2,r_3,r_4,s_0,s_1,s_2,s_3,s_4,n1,n2]) rfl ⟨_,_,_,_,_,_,_,_,_,_,fs,rfl,(hH _ _ _ _ _ _).out,(hB _ _ _ _ _ _).out⟩
theorem z0Q (v0 v1 v2 v3 v4 u0 u1 u2 u3 u4:Value) (D:Dr) (w:World) (h:RD w v0 v1 v2 v3 v4 D) (g:RD w u0 u1 u2 u3 u4 D):
  Calls Tryz.prog 97 #[.agg #[v0,v1,v2,v3,v4],.agg #[u0,u1,u2,u3,u4]] w fun e w'=>e= .returned (.bool true)∧Below w.heap.size w w':=by
 have a1:=h.fn;have a2:=h.fl;have b1:=g.fn;have b2:=g.fl
 go_enter Tryz.func97,Tryz.ntmps97
 go_wp2_with fail
 refine(vD _ _ _ _ D.fn D.fl _ (a1.below (by exact bel_)) (a2.below (by exact bel_)) (b1.below (by exact bel_)) (b2.below (by exact bel_))).mono ?_
 rintro e w1 ⟨rfl,hb1⟩;have hz1:=hb1.size;simp at hz1
 have hX1:Blk w1 w.heap.size 30 #[v0,v1,v2,v3,v4]:=Blk.below ((Blk.newAt rfl).alloc _) hb1 sz_;have hY1:Blk w1 (w.heap.size+1) 30 #[u0,u1,u2,u3,u4]:=Blk.below (Blk.newAt (by simp)) hb1 sz_;have hbw1:Below w.heap.size w w1:=by exact bel_
 clear hb1;obtain⟨x_0,x_1,x_2,x_3,x_4⟩:=hX1.c5;obtain⟨y_0,y_1,y_2,y_3,y_4⟩:=hY1.c5
 go_wp2_with fail
 refine(vD _ _ _ _ D.nn D.nl _ (h.nn.below hbw1) (h.nl.below hbw1) (g.nn.below hbw1) (g.nl.below hbw1)).mono ?_
 rintro e w2 ⟨rfl,hb2⟩;have hX2:=hX1.below hb2 hX1.lt;have hY2:=hY1.below hb2 hY1.lt;have hbw2:=hbw1.trans (hb2.mono hbw1.size);clear hb2 hX1 hY1 x_0 x_1 x_2 x_3 x_4 y_0 y_1 y_2 y_3 y_4;obtain⟨x_0,x_1,x_2,x_3,x_4⟩:=hX2.c5;obtain⟨y_0,y_1,y_2,y_3,y_4⟩:=hY2.c5
 go_wp2_with fail
 refine(z0d _ _ D.ss _ (h.ss.below hbw2) (g.ss.below hbw2)).mono ?_
 rintro e w3 ⟨rfl,hb3⟩;have hbw3:=hbw2.trans (hb3.mono hbw2.size);go_wp2;go_ret
 exact⟨rfl,hbw3⟩
end Go.Proofs.YtnjcpljhmhdhkaaGreat
