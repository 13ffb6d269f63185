/- part 14 -/
import Derived.Test.YtnjcpljhmhdhkaaGreatUPk6
import Derived.OwnWalk
import Derived.StillTailTactics
set_option linter.unusedSimpArgs false
set_option linter.unusedVariables false
set_option maxRecDepth 100000
set_option maxHeartbeats 8000000
namespace Go.Proofs.YtnjcpljhmhdhkaaGreat
open Go.ChangeShapes Go.WideShapes Go.Deep Go.RowKit Go.Joins
structure Sp where
 k:Int
 a:Int
 b:Int
 ns:List (Int×Int)
 ls:List (Int×Int)
def J6 (w:World) (b o:Nat) (s:Sp):Prop:=
 w.cell? ⟨b,o,none⟩=some (.int .i64 s.k)/\w.cell? ⟨b,o+1,none⟩=some (.int .i64 s.a)/\w.cell? ⟨b,o+2,none⟩=some (.int .i64 s.b)/\
  ∃vn vl,w.cell? ⟨b,o+3,none⟩=some vn/\w.cell? ⟨b,o+4,none⟩=some vl/\RP w vn s.ns/\RP w vl s.ls
def RT (w:World) (v:Value) (l:List Sp):Prop:=∃A c,v= .slice A l.length c/\l.length<=c/\l.length<=maxLen/\
 (0<l.length->∃b off,A=some ⟨b,off,none⟩/\b<w.heap.size/\∀k (hk:k<l.length),J6 w b (off+k*5) l[k])
theorem J6.below {w w':World} {b o:Nat} {s:Sp} (h:J6 w b o s) (hb:Below w.heap.size w w') (hl:b<w.heap.size):J6 w' b o s:=by
 obtain⟨h0,h1,h2,vn,vl,h3,h4,hn,Gc⟩:=h
 exact⟨(hb.cell (p:=⟨b,o,none⟩) hl).trans h0,(hb.cell (p:=⟨b,o+1,none⟩) hl).trans h1,(hb.cell (p:=⟨b,o+2,none⟩) hl).trans h2,vn,vl,
  (hb.cell (p:=⟨b,o+3,none⟩) hl).trans h3,(hb.cell (p:=⟨b,o+4,none⟩) hl).trans h4,hn.below hb,Gc.below hb⟩
theorem RT.below {w w':World} {v:Value} {l:List Sp} (h:RT w v l) (hb:Below w.heap.size w w'):RT w' v l:=by
 obtain⟨A,c,h1,h2,h3,h4⟩:=h;refine⟨A,c,h1,h2,h3,fun hp=>?_⟩
 obtain⟨b,off,g1,g2,g3⟩:=h4 hp;have:=hb.size;exact⟨b,off,g1,by omega,fun k hk=>(g3 k hk).below hb g2⟩
theorem RT.nil (w:World):RT w (.slice none 0 0) []:=⟨none,0,rfl,aaa _,aab _,fun h=>absurd h (by simp)⟩
structure Dr where
 fn:List (Int×Int)
 fl:List (Int×Int)
 nn:List (Int×Int)
 nl:List (Int×Int)
 ss:List Sp
structure RD (w:World) (a b c d e:Value) (D:Dr):Prop where
 fn:RP w a D.fn
 fl:RP w b D.fl
 nn:RP w c D.nn
 nl:RP w d D.nl
 ss:RT w e D.ss
theorem RD.below {w w':World} {a b c d e:Value} {D:Dr} (h:RD w a b c d e D) (hb:Below w.heap.size w w'):RD w' a b c d e D:=
 ⟨h.fn.below hb,h.fl.below hb,h.nn.below hb,h.nl.below hb,h.ss.below hb⟩
section
variable {H:Type} {enc:TypeId×Value->H} {w:World} {base:Nat} {spare:Nat->Bool} {Gg:Bool}
theorem xF {n:Nat} {v0 v1:Value} {x:DataW H×List MemPlace} (h:DataW.trod enc Tryz.prog w base spare Gg n 55 [v0,v1]=some x):
  ∃ns ls,RP w v0 ns/\RP w v1 ls:=by
 obtain⟨ys,m,_,_,_,fM,hf⟩:=DataW.trod_struct Tryz.underlying55 h;have YH:ys.length=2:=fM;have h0:DataW.trod enc Tryz.prog w base spare Gg m 52 (List.take (Tryz.prog.cellsOf 52) (List.drop 0 [v0,v1]))=ys[0]? :=hf 0 _ rfl;have h1:DataW.trod enc Tryz.prog w base spare Gg m 53 (List.take (Tryz.prog.cellsOf 53) (List.drop 1 [v0,v1]))=ys[1]? :=hf 1 _ rfl;rw[aac (show 0<ys.length by omega)] at h0;rw[aac (show 1<ys.length by omega)] at h1;have c0:Tryz.prog.cellsOf 52=1:=by kernel_rfl
 have c1:Tryz.prog.cellsOf 53=1:=by kernel_rfl
 simp only[c0,c1,List.drop_zero,List.drop_succ_cons,List.take_succ_cons,List.take_zero] at h0 h1
 obtain⟨ns,Ng⟩:=Vj Tryz.underlying52 Tryz.underlying213 k_ k_ Tryz.underlying3 Tryz.underlying3 h0;obtain⟨ls,hls⟩:=Vj Tryz.underlying53 Tryz.underlying215 k_ k_ Tryz.underlying3 Tryz.underlying3 h1;exact⟨ns,ls,Ng,hls⟩
theorem list5 {α:Type} {l:List α} (h:l.length=5):∃a b c d e,l=[a,b,c,d,e]:=by
 match l,h with
 | [a,b,c,d,e],_=>exact⟨a,b,c,d,e,rfl⟩
theorem z1k {n:Nat} {cs:List Value} {x:DataW H×List MemPlace} (h:DataW.trod enc Tryz.prog w base spare Gg n 195 cs=some x):
  ∃(k a b:Int) (vn vl:Value) (ns ls:List (Int×Int)),cs=[.int .i64 k,.int .i64 a,.int .i64 b,vn,vl]/\RP w vn ns/\RP w vl ls:=by
 obtain⟨ys,m,_,_,Ho,fM,hf⟩:=DataW.trod_struct Tryz.underlying195 h;have hC:Tryz.prog.cellsOf 195=5:=by kernel_rfl
 rw[hC] at Ho;obtain⟨u0,u1,u2,u3,u4,rfl⟩:=list5 Ho;have YH:ys.length=4:=fM;have h0:DataW.trod enc Tryz.prog w base spare Gg m 3 (List.take (Tryz.prog.cellsOf 3) (List.drop 0 [u0,u1,u2,u3,u4]))=ys[0]? :=hf 0 _ rfl;have h1:DataW.trod enc Tryz.prog w base spare Gg m 3 (List.take (Tryz.prog.cellsOf 3) (List.drop 1 [u0,u1,u2,u3,u4]))=ys[1]? :=hf 1 _ rfl;have h2:DataW.trod enc Tryz.prog w base spare Gg m 3 (List.take (Tryz.prog.cellsOf 3) (List.drop 2 [u0,u1,u2,u3,u4]))=ys[2]? :=hf 2 _ rfl;have h3:DataW.trod enc Tryz.prog w base spare Gg m 55 (List.take (Tryz.prog.cellsOf 55) (List.drop 3 [u0,u1,u2,u3,u4]))=ys[3]? :=hf 3 _ rfl;rw[aac (show 0<ys.length by omega)] at h0;rw[aac (show 1<ys.length by omega)] at h1;rw[aac (show 2<ys.length by omega)] at h2;rw[aac (show 3<ys.length by omega)] at h3;have c0:Tryz.prog.cellsOf 3=1:=by kernel_rfl
 have c1:Tryz.prog.cellsOf 55=2:=by kernel_rfl
 simp only[c0,c1,List.drop_zero,List.drop_succ_cons,List.take_succ_cons,List.take_zero] at h0 h1 h2 h3
 obtain⟨k,e0,_,_⟩:=DataW.trod_int Tryz.underlying3 h0;obtain⟨a,e1,_,_⟩:=DataW.trod_int Tryz.underlying3 h1;obtain⟨b,e2,_,_⟩:=DataW.trod_int Tryz.underlying3 h2;obtain⟨ns,ls,hn,hl⟩:=xF h3;simp at e0 e1 e2
 subst e0 e1 e2;exact⟨k,a,b,u3,u4,ns,ls,rfl,hn,hl⟩
theorem z0H {α:Type} {Q:Nat->α->Prop}:∀(n:Nat),(∀i,i<n->∃x,Q i x)->∃l:List α,l.length=n/\∀i (hi:i<l.length),Q i l[i]
 |0,_=>⟨[],rfl,fun i hi=>absurd hi (by simp)⟩
 |n+1,h=>by
  obtain⟨l,hl,hq⟩:=z0H n (fun i hi=>h i o_);obtain⟨x,hx⟩:=h n o_;refine⟨l++[x],by simp[hl],fun i hi=>?_⟩
  by_cases Gp:i<l.length
  ·rw[aad Gp];exact hq i Gp
  ·have:i=l.length:=by simp at hi;omega
   subst this;simp only[List.getElem_append_right (aaa _),aae,List.getElem_cons_zero]
   rw[hl];exact hx
theorem z5m {n:Nat} {v:Value} {x:DataW H×List MemPlace} (h:DataW.trod enc Tryz.prog w base spare Gg n 56 [v]=some x):∃l:List Sp,RT w v l:=by
 rcases open_slice Tryz.underlying56 h with ⟨Gu,_⟩|⟨a,len,cap,m,n',D,Pl,Gu,hb,hl,hm,c9,hx,hi⟩
 ·simp only[List.cons.injEq,and_true] at Gu
  subst Gu;exact⟨[],RT.nil w⟩
 ·simp only[List.cons.injEq,and_true] at Gu
  subst Gu;have hlm:len<=m:=by rw[c9];split<;>omega
  have hC:Tryz.prog.cellsOf 195=5:=by kernel_rfl
  obtain⟨b,off,sp⟩:=a
  have nW:0<len->sp=none:=by
   intro GD;obtain⟨cs',hc,Bj⟩:=hi 0 o_;rw[hC] at hc;obtain⟨k,a',b',vn,vl,ns,ls,rfl,hn,Gc⟩:=z1k Bj;obtain⟨_,Ho,Gy⟩:=World.cells?_some hc;have g0:=Gy 0 o_;have e0:((⟨b,off,sp⟩:Addr).add (0*5)).add 0=⟨b,off,sp⟩:=by simp[Addr.add]
   rw[e0] at g0
   cases hs:sp with
   |none=>rfl
   |some s=>
    rw[hs] at g0;unfold World.cell? at g0
    split at g0
    ·simp at g0
    ·simp at g0
  have key:∀i,i<len->∃s:Sp,sp=none/\b<w.heap.size/\J6 w b (off+i*5) s:=by
   intro i Fm;obtain⟨cs',hc,Bj⟩:=hi i o_;rw[hC] at hc;obtain⟨k,a',b',vn,vl,ns,ls,rfl,hn,Gc⟩:=z1k Bj;obtain⟨_,Ho,Gy⟩:=World.cells?_some hc;have g0:=Gy 0 o_;have hsp':=nW o_;subst hsp'
   have CQ:∀(o k:Nat),(⟨b,o,none⟩:Addr).add k=⟨b,o+k,none⟩:=by
    intro o k;unfold Addr.add
    split<;>simp_all
   have g1:=Gy 1 o_;have g2:=Gy 2 o_;have g3:=Gy 3 o_;have g4:=Gy 4 o_;simp only[CQ,aaf,aag,aah] at g0 g1 g2 g3 g4
   exact⟨⟨k,a',b',ns,ls⟩,rfl,World.block_lt_of_cell? w _ g0,g0,g1,g2,vn,vl,g3,g4,hn,Gc⟩
  obtain⟨l,Bu,hq⟩:=z0H len key;refine⟨l,some ⟨b,off,sp⟩,cap,by rw[Bu],by omega,by omega,fun GD=>?_⟩
  obtain⟨rfl,Hb,_⟩:=hq 0 GD;exact⟨b,off,rfl,Hb,fun k hk=>(hq k hk).2.2⟩
end
open Go.RowKit
abbrev SF:=Sp×Value×Value
def sfc (f:SF):List Value:=[.int .i64 f.1.k,.int .i64 f.1.a,.int .i64 f.1.b,f.2.1,f.2.2]
structure OwnT (base:Nat) (w:World) (v:Value) (fs:List SF):Prop where
 row:w.ownsRow base 113 5 v fs.length (fs.flatMap sfc)
 win:∀k (hk:k<fs.length),OwnW base w fs[k].2.1 fs[k].2.2 fs[k].1.ns fs[k].1.ls
 rw_:∀k (hk:k<fs.length) b,v.ownBlock=some b->¬zw fs[k].2.1 fs[k].2.2 b
 ww:∀i j (hi:i<fs.length) (hj:j<fs.length),i≠j->∀b,zw fs[i].2.1 fs[i].2.2 b->¬zw fs[j].2.1 fs[j].2.2 b
def yD (v:Value) (fs:List SF) (b:Nat):Prop:=v.ownBlock=some b∨∃k,∃hk:k<fs.length,zw fs[k].2.1 fs[k].2.2 b
section
variable {base:Nat} {w w':World} {v:Value} {fs:List SF}
theorem OwnT.lt (h:OwnT base w v fs) (b:Nat) (hb:yD v fs b):base<=b/\b<w.heap.size:=by
 rcases hb with hb|⟨k,hk,hb⟩
 ·exact World.ownsRow.lt h.row b hb
 ·exact(h.win k hk).lt b hb
theorem OwnT.turned {S:Nat->Prop} (h:OwnT base w v fs) (hb:Turns S w w') (hs:∀b,yD v fs b->¬S b):OwnT base w' v fs:=
 ⟨zQ h.row hb (fun b hb=>hs b (.inl hb)),fun k hk=>(h.win k hk).turned hb (fun b hb=>hs b (.inr ⟨k,hk,hb⟩)),h.rw_,h.ww⟩
theorem OwnT.kept (h:OwnT base w v fs) (hb:Below w.heap.size w w'):OwnT base w' v fs:=
 h.turned (S:=fun _=>False) (Turns.ofBelow hb) (fun _ _ h=>h)
theorem OwnT.mono {base':Nat} (h:OwnT base w v fs) (hb:base'<=base):OwnT base' w v fs:=by
 refine⟨?_,fun k hk=>(h.win k hk).mono hb,h.rw_,h.ww⟩
 obtain⟨h1,h2⟩:=h.row;refine⟨h1,?_⟩
 rcases h2 with h2|⟨g,cap,cur,e1,e2,e3⟩
 ·exact .inl h2
 ·exact .inr ⟨g,cap,cur,e1,aai hb e2,e3⟩
theorem OwnT.nil (base:Nat) (w:World):OwnT base w (.slice none 0 0) []:=
 ⟨World.ownsRow_nil _ _ _ _,fun k hk=>absurd hk (by simp),fun k hk=>absurd hk (by simp),fun i j hi=>absurd hi (by simp)⟩
theorem OwnW.alloc' {vn vl:Value} {ns ls:List Pr} (h:OwnW base w vn vl ns ls) (o:Obj):OwnW base (w.alloc o) vn vl ns ls:=h.kept ((aaj _ _).alloc (aaa _) o)
theorem OwnT.reads (h:OwnT base w v fs):RT w v (fs.map Prod.fst):=by
 obtain⟨h0,A,c,rfl,h1,h2,h3⟩:=kE h.row;refine⟨A,c,by simp,by simpa using h1,by simpa using h2,fun hp=>?_⟩
 obtain⟨b,off,e1,e2,e3⟩:=h3 (by simpa using hp);refine⟨b,off,e1,e2,fun k hk=>?_⟩
 have gH:k<fs.length:=by simpa using hk
 have g:=fun j hj=>qi sfc 5 (fun _=>rfl) fs k j gH hj
 have c0:=e3 (k*5+0) _ (by rw[g 0 o_];rfl);have c1:=e3 (k*5+1) _ (by rw[g 1 o_];rfl);have c2:=e3 (k*5+2) _ (by rw[g 2 o_];rfl);have c3:=e3 (k*5+3) _ (by rw[g 3 o_];rfl);have c4:=e3 (k*5+4) _ (by rw[g 4 o_];rfl);simp only[<-aak,aaf] at c0 c1 c2 c3 c4
 have hw:=h.win k gH;simp only[List.getElem_map]
 exact⟨c0,c1,c2,_,_,c3,c4,hw.1.reads,hw.2.1.reads⟩
end
theorem jW:∀(l:List SF) (k j:Nat) (u:Value) (f:SF) (hk:k<l.length),j<5->(sfc l[k]).set j u=sfc f->(l.flatMap sfc).set (k*5+j) u=(l.set k f).flatMap sfc
 | [],k,_,_,_,h,_,_=>absurd h (by simp)
 |a::l,0,j,u,f,h,hj,he=>by
  rw[aal,aam,aam,<-he,aan,aao (by simp[sfc];omega)];simp
 |a::l,k+1,j,u,f,h,hj,he=>by
  have ih:=jW l k j u f (by simpa using h) hj he;rw[aap,aam,aam,<-ih,aan,aaq (by simp[sfc];omega)];have e:(k+1)*5+j -(sfc a).length =k*5+j:=by simp[sfc];omega
  rw[e]
theorem OwnT.put {base:Nat} {w w':World} {g c n m:Nat} {fs:List SF} (h:OwnT base w (.slice (some ⟨g,0,none⟩) n c) fs) {q:Nat} {f:SF} (hq:q<fs.length) (hm:m=fs.length)
  (Hk:w'.ownsRow base 113 5 (.slice (some ⟨g,0,none⟩) n c) m ((fs.set q f).flatMap sfc)) (ht:Turns (fun b=>b=g) w w') (hf:OwnW base w f.2.1 f.2.2 f.1.ns f.1.ls)
  (hg:¬zw f.2.1 f.2.2 g) (ha:∀j (hj:j<fs.length),j≠q->∀b,zw f.2.1 f.2.2 b->¬zw fs[j].2.1 fs[j].2.2 b):
  OwnT base w' (.slice (some ⟨g,0,none⟩) n c) (fs.set q f):=by
 subst hm;refine⟨by rw[aar];exact Hk,?_,?_,?_⟩
 ·intro k hk
  rw[aar] at hk;rw[List.getElem_set]
  split
  ·exact hf.turned ht (fun b hb e=>by subst e;exact hg hb)
  ·exact(h.win k hk).turned ht (fun b hb e=>by subst e;exact h.rw_ k hk b rfl hb)
 ·intro k hk b hb
  rw[aar] at hk;rw[List.getElem_set]
  split
  ·have:g=b:=by simpa[Value.ownBlock] using hb
   subst this;exact hg
  ·exact h.rw_ k hk b hb
 ·intro i j hi hj gr b
  rw[aar] at hi hj;rw[List.getElem_set,List.getElem_set]
  split
  ·rename_i e1
   rw[aaq o_];exact ha j hj o_ b
  ·rename_i e1
   split
   ·intro hb gw
    exact ha i hi o_ b gw hb
   ·exact h.ww i j hi hj gr b
def szTf (n:Int):List Sp->Int
 | []=>n
 |s::r=>if szW n s.ns.length s.ls.length<0 then -1 else szTf (szW n s.ns.length s.ls.length) r
def szT (n:Int) (l:List Sp):Int:=if n -l.length<0 then -1 else szTf (n -l.length) l
theorem z3k:∀(l:List Sp) (n:Int),0<=n->szTf n l<0->szTf n l= -1
 | [],n,h0,h=>by unfold szTf at h;omega
 |s::r,n,h0,h=>by
  unfold szTf at h⊢
  split
  ·rfl
  ·rename_i hc
   rw[aaq hc] at h;exact z3k r _ o_ h
theorem z9N (l:List Sp) (n:Int) (h:szT n l<0):szT n l= -1:=by
 unfold szT at h⊢
 split
 ·rfl
 ·rename_i hc
  rw[aaq hc] at h;exact z3k l _ o_ h
theorem ki {n:Int} {a b:Nat} (h:¬szW n a b<0):szW n a b=n -a -b/\(a:Int)+b<=n:=by
 unfold szW at h⊢
 split
 ·rename_i h1;rw[aao h1] at h;omega
 ·rename_i h1
  rw[aaq h1] at h
  split
  ·rename_i h2;rw[aao h2] at h;omega
  ·omega
def sumT:List Sp->Nat
 | []=>0
 |s::r=>s.ns.length+s.ls.length+sumT r
theorem z3g:∀(l:List Sp) (n:Int),¬szTf n l<0->szTf n l=n -sumT l
 | [],n,h=>by simp[szTf,sumT]
 |s::r,n,h=>by
  unfold szTf at h⊢
  split
  ·rename_i hc;rw[aao hc] at h;omega
  ·rename_i hc
   rw[aaq hc] at h;rw[z3g r _ h,(ki hc).1];simp only[sumT]
   omega
theorem z5I {l:List Sp} {n:Int} (h:¬szT n l<0):szT n l=n -l.length -sumT l:=by
 unfold szT at h⊢
 split
 ·rename_i hc;rw[aao hc] at h;omega
 ·rename_i hc
  rw[aaq hc] at h;exact z3g l _ h
theorem z5H:∀(l:List Sp) (k:Nat) (hk:k<l.length),l[k].ns.length +l[k].ls.length <=sumT l
 | [],k,hk=>absurd hk (by simp)
 |s::r,0,hk=>by simp[sumT]
 |s::r,k+1,hk=>by
  have:=z5H r k (by simpa using hk);simp only[List.getElem_cons_succ,sumT]
  omega
theorem z15 (k a b:Int) (vn vl:Value) (ns ls:List Pr) (n x:Int) (w:World) (hn:RP w vn ns) (hl:RP w vl ls) (h0:0<=n) (h1:n<=1000000000) (hx:Hid (szW n ns.length ls.length=x)):
  CB_ 222 #[.agg #[.int .i64 k,.int .i64 a,.int .i64 b,vn,vl],.int .i64 n] w (.int .i64 x):=by
 by_cases GU:x<0
 ·have CM:x= -1:=by
   have:=hx.out;unfold szW at this
   split at this
   ·omega
   ·split at this<;>omega
  subst CM
  go_enter Tryz.func222,Tryz.ntmps222
  go_wp2_with fail
  refine(jb _ _ ns ls n (-1) _ (hn.below bel_) (hl.below bel_) h0 h1 hx).mono ?_
  rintro e w1 ⟨rfl,h9⟩;go_wp2;go_ret
  exact⟨rfl,by exact bel_⟩
 ·go_enter Tryz.func222,Tryz.ntmps222
  go_wp2_with fail
  refine(jb _ _ ns ls n x _ (hn.below bel_) (hl.below bel_) h0 h1 hx).mono ?_
  rintro e w1 ⟨rfl,h9⟩;go_wp2;go_ret
  exact⟨rfl,by exact bel_⟩
theorem XL (v:Value) (l:List Sp) (n x:Int) (w:World) (h:RT w v l) (h0:0<=n) (h1:n<=1000000000) (hx:Hid (szT n l=x)):
  CB_ 165 #[v,.int .i64 n] w (.int .i64 x):=by
 obtain⟨A,c,rfl,hc,hm,hcell⟩:=h;unfold maxLen at hm
 by_cases fS:n -(l.length:Int)<0
 ·have e:x= -1:=by rw[<-hx.out];unfold szT;rw[aao fS]
  subst e;clear hx hcell
  go_enter Tryz.func165,Tryz.ntmps165
  go_wp2;go_ret
  exact⟨rfl,aaj _ _⟩
 ·have fX:szTf (n -l.length) l=x:=by rw[<-hx.out];unfold szT;rw[aaq fS]
  have HX:=h_ fX;clear hx fX
  go_enter Tryz.func165,Tryz.ntmps165
  go_wp2
  go_loopw [1,5] (fun y i wr=>∃(k:Nat) (m:Int),k<=l.length/\i= .int .i64 k/\y= .int .i64 m/\0<=m/\m<=1000000000/\Hid (szTf m (l.drop k)=x)/\Below w.heap.size w wr) (fun _ i _=>l.length -(intOf i).toNat)
  case atStart=>exact⟨0,_,aab _,rfl,rfl,by omega,by omega,h_ (by simpa using HX.out),aaj _ _⟩
  case round=>
   obtain⟨k,m,hk,rfl,rfl,uD,F4,HT,Hb⟩:=hrel;have gj:=Hb.size
   by_cases Hd:k<l.length
   ·obtain⟨b,off,rfl,hb,Ho⟩:=hcell o_
    obtain⟨k0,k1,k2,vn,vl,k3,k4,hn,hl⟩:=Ho k Hd;have q0:=(Hb.cell (p:=⟨b,off+k*5,none⟩) hb).trans k0;have q1:=(Hb.cell (p:=⟨b,off+k*5+1,none⟩) hb).trans k1;have q2:=(Hb.cell (p:=⟨b,off+k*5+2,none⟩) hb).trans k2;have q3:=(Hb.cell (p:=⟨b,off+k*5+3,none⟩) hb).trans k3;have q4:=(Hb.cell (p:=⟨b,off+k*5+4,none⟩) hb).trans k4;have FM:=hn.below Hb;have Gc:=hl.below Hb;have um:=HT.out;rw[aas Hd] at um;unfold szTf at um;obtain⟨y,hy⟩:∃y,szW m l[k].ns.length l[k].ls.length =y:=⟨_,rfl⟩;have HY:=h_ hy;rw[hy] at um;clear k0 k1 k2 k3 k4 Ho hcell hn hl HT
    by_cases CA:y<0
    ·rw[aao CA] at um
     subst um;clear hy
     go_wp2_with fail
     refine(z15 _ _ _ _ _ _ _ m y _ FM Gc uD F4 HY).mono ?_
     rintro e w2 ⟨rfl,He⟩;have gn:Below w.heap.size w w2:=Hb.trans (He.mono gj);clear He;go_wp2;go_ret
     exact⟨rfl,gn⟩
    ·rw[aaq CA] at um
     have UV:=h_ um;have hyv:=(ki (by rw[hy];exact CA)).1;rw[hy] at hyv;clear hy um
     go_wp2_with fail
     refine(z15 _ _ _ _ _ _ _ m y _ FM Gc uD F4 HY).mono ?_
     rintro e w2 ⟨rfl,He⟩;have gn:Below w.heap.size w w2:=Hb.trans (He.mono gj);clear He;have mX:y<=1000000000:=o_
     have hy2:0<=y:=o_
     clear hyv;go_wp2;go_roundw
     case rel=>exact⟨k+1,y,by omega,by go_num,rfl,hy2,mX,UV,gn⟩
     case measure=>simp[intOf];omega
   ·have Hw:k=l.length:=o_
    subst Hw;have e:=HT.out;rw[List.drop_length] at e;unfold szTf at e;subst e;clear hcell HT HX;go_wp2;go_ret
    exact⟨rfl,Hb⟩
def zbc (k a b:Int) (ns ls:List Pr) (w:World) (e:Ending) (w':World):Prop:=∃An cn Al cl,e= .returned (.agg #[.int .i64 k,.int .i64 a,.int .i64 b,.slice An ns.length cn,.slice Al ls.length cl])/\OwnW w.heap.size w' (.slice An ns.length cn) (.slice Al ls.length cl) ns ls/\Below w.heap.size w w'
theorem z4D (k a b:Int) (vn vl:Value) (ns ls:List Pr) (w:World) (hn:RP w vn ns) (hl:RP w vl ls) (h1:ns.length<=1048576) (h2:ls.length<=1048576):
  Calls Tryz.prog 226 #[.agg #[.int .i64 k,.int .i64 a,.int .i64 b,vn,vl]] w (zbc k a b ns ls w):=by
 go_enter Tryz.func226,Tryz.ntmps226
 go_wp2_with fail
 refine(x7 _ _ ns ls _ (hn.below bel_) (hl.below bel_) h1 h2).mono ?_
 rintro e w1 ⟨An,cn,Al,cl,rfl,Hj,h9⟩;have H8:=h9.size;simp at H8
 have gu:Blk w1 (w.heap.size+1) 113 #[.int .i64 0,.int .i64 0,.int .i64 0,.slice none 0 0,.slice none 0 0]:=Blk.below ((Blk.newAt (by simp)).alloc _) h9 sz_;have nh:Blk w1 (w.heap.size+1+1) 113 #[.int .i64 k,.int .i64 a,.int .i64 b,.slice none 0 0,.slice none 0 0]:=Blk.below (Blk.newAt (by simp)) h9 sz_;have go:OwnW (w.heap.size+1+1+1) w1 (.slice An ns.length cn) (.slice Al ls.length cl) ns ls:=by simpa using Hj
 have h8:Below w.heap.size w w1:=bel_
 have n1:w.heap.size+1<w1.heap.size:=o_
 have n2:w.heap.size+1+1<w1.heap.size:=o_
 clear h9 Hj;have hlow:=fun (p:Addr) (u:Value) (h:p.block<w.heap.size+1+1+1)=>h
 have HO:Hid (∀u3 u4 v0 v1 v2 v3 v4,OwnW w.heap.size (((((((w1.setCell ⟨w.heap.size+1+1,3,none⟩ u3).setCell ⟨w.heap.size+1+1,4,none⟩ u4).setCell ⟨w.heap.size+1,0,none⟩ v0).setCell ⟨w.heap.size+1,1,none⟩ v1).setCell ⟨w.heap.size+1,2,none⟩ v2).setCell ⟨w.heap.size+1,3,none⟩ v3).setCell ⟨w.heap.size+1,4,none⟩ v4) (.slice An ns.length cn) (.slice Al ls.length cl) ns ls):=h_ (fun u3 u4 v0 v1 v2 v3 v4=>
  (((((((go.setLow sz_ u3).setLow sz_ u4).setLow sz_ v0).setLow sz_ v1).setLow sz_ v2).setLow sz_ v3).setLow sz_ v4).mono o_)
 have HB:Hid (∀u3 u4 v0 v1 v2 v3 v4,Below w.heap.size w (((((((w1.setCell ⟨w.heap.size+1+1,3,none⟩ u3).setCell ⟨w.heap.size+1+1,4,none⟩ u4).setCell ⟨w.heap.size+1,0,none⟩ v0).setCell ⟨w.heap.size+1,1,none⟩ v1).setCell ⟨w.heap.size+1,2,none⟩ v2).setCell ⟨w.heap.size+1,3,none⟩ v3).setCell ⟨w.heap.size+1,4,none⟩ v4)):=h_ (fun u3 u4 v0 v1 v2 v3 v4=>
  ((((((h8.setCell sz_ u3).setCell sz_ u4).setCell sz_ v0).setCell sz_ v1).setCell sz_ v2).setCell sz_ v3).setCell sz_ v4)
 clear go h8 hlow;obtain⟨r_0,r_1,r_2,r_3,r_4,r_f0,r_f1,r_f2,r_f3,r_f4⟩:=gu.b5;obtain⟨s_0,s_1,s_2,s_3,s_4,s_f0,s_f1,s_f2,s_f3,s_f4⟩:=nh.b5;go_wp2;exact bodyPost_ret (v:= .agg #[.int .i64 k,.int .i64 a,.int .i64 b,.slice An ns.length cn,.slice Al ls.length cl]) (by simp[results,Tryz.results226,go_sem,r_0,r_1,r_2,r_3,r_4,s_0,s_1,s_2,s_3,s_4,n1,n2]) rfl ⟨_,_,_,_,rfl,HO.out _ _ _ _ _ _ _,HB.out _ _ _ _ _ _ _⟩
theorem Zq:(Tryz.prog.info? 113).map (fun i=>(i.zero,i.size,i.bytes))=some (some (.agg #[.int .i64 0,.int .i64 0,.int .i64 0,.slice none 0 0,.slice none 0 0]),5,72):=by kernel_rfl
def zSF:SF:=(⟨0,0,0,[],[]⟩,.slice none 0 0,.slice none 0 0)
theorem made5 (n:Nat):(madeCells #[.int .i64 0,.int .i64 0,.int .i64 0,.slice none 0 0,.slice none 0 0] (n*5)).toList =(List.replicate n zSF).flatMap sfc:=by
 apply aat
 intro j
 by_cases hj:j<n*5
 ·have h1:=qi sfc 5 (fun _=>rfl) (List.replicate n zSF) (j/5) (j%5) (by simp;omega) o_
  rw[show j/5*5+j%5=j by omega] at h1;rw[h1];simp only[madeCells,Array.toList_map,aau,Array.toList_range,aav hj,aaw]
  show some (#[Value.int .i64 0,.int .i64 0,.int .i64 0,.slice none 0 0,.slice none 0 0][j%5]!)=_
  have:j%5=0∨j%5=1∨j%5=2∨j%5=3∨j%5=4:=o_
  rcases this with h|h|h|h|h<;>rw[h]<;>simp[sfc,zSF]
 ·rw[List.getElem?_eq_none (by simp[madeCells];omega),List.getElem?_eq_none (by rw[zK sfc 5 (fun _=>rfl)];simp;omega)]
theorem z0w (k:Nat):¬zw (.slice none 0 0) (.slice none 0 0) k:=by
 rintro(h|h)<;>simp[Value.ownBlock] at h
theorem OwnT.zero {base:Nat} {w:World} {v:Value} {n:Nat} (h:w.ownsRow base 113 5 v n ((List.replicate n zSF).flatMap sfc)):OwnT base w v (List.replicate n zSF):=by
 refine⟨by simpa using h,fun k hk=>?_,fun k hk b _=>?_,fun i j hi hj _ b hb=>?_⟩
 ·rw[List.getElem_replicate]
  exact⟨OwnP.nil _ _ _,OwnP.nil _ _ _,fun k hk=>by simp[zSF,Value.ownBlock] at hk⟩
 ·rw[List.getElem_replicate]
  exact z0w b
 ·rw[List.getElem_replicate] at hb
  exact absurd hb (z0w b)
def RetT (l:List Sp) (w:World) (e:Ending) (w':World):Prop:=∃A c fs,e= .returned (.slice A l.length c)/\fs.map Prod.fst=l/\OwnT w.heap.size w' (.slice A l.length c) fs/\Below w.heap.size w w'
theorem z3P (v:Value) (l:List Sp) (w:World) (h:RT w v l) (hle:l.length<=1048576) (hws:∀k (hk:k<l.length),l[k].ns.length <=1048576/\l[k].ls.length <=1048576):
  Calls Tryz.prog 169 #[v] w (RetT l w):=by
 obtain⟨A,c,rfl,hc,hm,hcell⟩:=h;clear hm;obtain⟨i0,hi,mC,H8,Gd⟩:=info_parts Zq
 go_enter Tryz.func169,Tryz.ntmps169
 go_wp2_with (at_make;refine wpList_make_full _ rfl _ _ 28 rfl w.heap.size 113 i0 (.agg #[.int .i64 0,.int .i64 0,.int .i64 0,.slice none 0 0,.slice none 0 0]) 5 Tryz.underlying28 hi mC H8 .i64 .i64 _ _ l.length rfl rfl rfl rfl (by rw[Gd];omega) (by unfold maxLen;omega) (aaa _) ?_)
 intro w1 Hz gQ;have h9:Below w.heap.size w w1:=(aaj _ _).grown gQ (aaa _) (by intro k hk;cases hk)
 have hown:OwnT w.heap.size w1 (.slice (some ⟨w.heap.size,0,none⟩) l.length l.length) (List.replicate l.length zSF):=by
  exact OwnT.zero (by rw[<-made5];exact Hz)
 have FY:w.heap.size<w1.heap.size:=(World.ownsRow.lt Hz w.heap.size rfl).2;have Bh:=h_ hown;clear Hz hown gQ mC H8 Gd hi;go_wp2
 go_loopw [4] (fun i wr=>∃(k:Nat) (fs:List SF),k<=l.length/\i= .int .i64 k/\fs.length=k/\Hid (fs.map Prod.fst=l.take k)/\Hid (OwnT w.heap.size wr (.slice (some ⟨w.heap.size,0,none⟩) l.length l.length) (fs++List.replicate (l.length -k) zSF))/\Below w.heap.size w wr/\w.heap.size<wr.heap.size) (fun i _=>l.length -(intOf i).toNat)
 case atStart=>exact⟨0,[],aab _,rfl,rfl,h_ (by simp),h_ (by simpa using Bh.out),h9,FY⟩
 case round=>
  obtain⟨k,fs,hk,rfl,GB,HM,HO,Hb,hwl⟩:=hrel;have gj:=Hb.size;clear Bh h9 FY
  by_cases Hd:k<l.length
  ·obtain⟨b,off,rfl,hb,Ho⟩:=hcell o_
   obtain⟨k0,k1,k2,vn,vl,k3,k4,hn,hl⟩:=Ho k Hd;obtain⟨FY,gS⟩:=hws k Hd;obtain⟨Av,cv,ev,_⟩:=hn.form;obtain⟨Au,cu,eu,_⟩:=hl.form;subst ev eu;have q0:=(Hb.cell (p:=⟨b,off+k*5,none⟩) hb).trans k0;have q1:=(Hb.cell (p:=⟨b,off+k*5+1,none⟩) hb).trans k1;have q2:=(Hb.cell (p:=⟨b,off+k*5+2,none⟩) hb).trans k2;have q3:=(Hb.cell (p:=⟨b,off+k*5+3,none⟩) hb).trans k3;have q4:=(Hb.cell (p:=⟨b,off+k*5+4,none⟩) hb).trans k4;have FM:=hn.below Hb;have Gc:=hl.below Hb;have Yb:Hid (l.take (k+1)=l.take k++[l[k]]):=h_ (aax Hd);generalize l[k]=s at*;clear k0 k1 k2 k3 k4 Ho hcell hn hl hws
   go_wp2_with fail
   refine(z4D s.k s.a s.b _ _ s.ns s.ls _ FM Gc FY gS).mono ?_
   rintro e w2 ⟨An,cn,Al,cl,rfl,Hm,He⟩;have hsz2:=He.size;have gn:Below w.heap.size w w2:=Hb.trans (He.mono gj);have hwl2:w.heap.size<w2.heap.size:=o_
   have hT:=HO.out.kept He;have Hi:(fs++List.replicate (l.length -k) zSF).length =l.length:=by simp;omega
   have Fu:k<(fs++List.replicate (l.length -k) zSF).length :=o_
   have hzk:(fs++List.replicate (l.length -k) zSF)[k]=zSF:=by
    rw[List.getElem_append_right o_,List.getElem_replicate]
   have Hk:=hT.row;rw[Hi] at Hk
   have BT:(fs++List.replicate (l.length -k) zSF).set k (s,.slice An s.ns.length cn,.slice Al s.ls.length cl)=(fs++[(s,.slice An s.ns.length cn,.slice Al s.ls.length cl)])++List.replicate (l.length -(k+1)) zSF:=by
    rw[aan,aaq o_,show l.length -k=(l.length -(k+1))+1 by omega,List.replicate_succ,GB,aae,aal,aay];rfl
   have Ff:=Hm.lt;have hltT:=HO.out.lt;have x0:=Hk.cellAt (k*5+0) o_;have x1:=Hk.cellAt (k*5+1) o_;have x2:=Hk.cellAt (k*5+2) o_;have x3:=Hk.cellAt (k*5+3) o_;have x4:=Hk.cellAt (k*5+4) o_;rw[qi sfc 5 (fun _=>rfl) _ k _ Fu o_,hzk] at x0 x1 x2 x3 x4;simp only[sfc,zSF,aaf,aag,aah] at x0 x1 x2 x3 x4
   have f0:=Hk.frozenAt (k*5);have f1:=Hk.frozenAt (k*5+1);have f2:=Hk.frozenAt (k*5+2);have f3:=Hk.frozenAt (k*5+3);have f4:=Hk.frozenAt (k*5+4);obtain⟨r0,t0⟩:=Hk.stored (k*5+0) (.int .i64 s.k);obtain⟨r1,t1⟩:=r0.stored (k*5+1) (.int .i64 s.a);obtain⟨r2,t2⟩:=r1.stored (k*5+2) (.int .i64 s.b);obtain⟨r3,t3⟩:=r2.stored (k*5+3) (.slice An s.ns.length cn);obtain⟨r4,t4⟩:=r3.stored (k*5+4) (.slice Al s.ls.length cl)
   rw[jW _ k 0 _ (⟨s.k,0,0,[],[]⟩,.slice none 0 0,.slice none 0 0) Fu o_ (by rw[hzk];rfl),
    jW _ k 1 _ (⟨s.k,s.a,0,[],[]⟩,.slice none 0 0,.slice none 0 0) (by rw[aar];exact Fu) o_ (by rw[aaz];rfl),
    jW _ k 2 _ (⟨s.k,s.a,s.b,[],[]⟩,.slice none 0 0,.slice none 0 0) (by rw[aar,aar];exact Fu) o_ (by rw[aaz];rfl),
    jW _ k 3 _ (⟨s.k,s.a,s.b,[],[]⟩,.slice An s.ns.length cn,.slice none 0 0) (by rw[aar,aar,aar];exact Fu) o_ (by rw[aaz];rfl),
    jW _ k 4 _ (s,.slice An s.ns.length cn,.slice Al s.ls.length cl) (by rw[aar,aar,aar,aar];exact Fu) o_ (by rw[aaz];rfl),
    List.set_set,List.set_set,List.set_set,List.set_set] at r4
   have mY:=hT.put Fu Hi.symm r4 (Turns.trans (Turns.trans (Turns.trans (Turns.trans (Turns.ofGrown t0 (fun k hk=>by cases hk;rfl)) (Turns.ofGrown t1 (fun k hk=>by cases hk;rfl))) (Turns.ofGrown t2 (fun k hk=>by cases hk;rfl))) (Turns.ofGrown t3 (fun k hk=>by cases hk;rfl))) (Turns.ofGrown t4 (fun k hk=>by cases hk;rfl)))
    (f:=(s,.slice An s.ns.length cn,.slice Al s.ls.length cl)) (Hm.mono gj) (fun hb=>by have:=(Ff _ hb).1;omega) (fun j hj _ b hb gw=>by
     have h1:=(Ff _ hb).1;have h2:=(hltT b (.inr ⟨j,hj,gw⟩)).2;omega)
   rw[BT] at mY;have HP:=h_ mY;have HB:=h_ (((((gn.setCell (p:=⟨w.heap.size,k*5+0,none⟩) (aaa _) (.int .i64 s.k)).setCell (p:=⟨w.heap.size,k*5+1,none⟩) (aaa _) (.int .i64 s.a)).setCell (p:=⟨w.heap.size,k*5+2,none⟩) (aaa _) (.int .i64 s.b)).setCell (p:=⟨w.heap.size,k*5+3,none⟩) (aaa _) (.slice An s.ns.length cn)).setCell (p:=⟨w.heap.size,k*5+4,none⟩) (aaa _) (.slice Al s.ls.length cl));rw[aaf] at HP HB;have HM2:Hid ((fs++[(s,Value.slice An s.ns.length cn,Value.slice Al s.ls.length cl)]).map Prod.fst=l.take (k+1)):=h_ (by rw[aaA,HM.out,Yb.out];rfl);clear r0 r1 r2 r3 r4 t0 t1 t2 t3 t4 mY hT Hk BT hzk He Hm Ff hltT HM HO Yb Hb gn Fu Hi q0 q1 q2 q3 q4;go_wp2;go_roundw
   case rel=>exact⟨k+1,_,by omega,by go_num,by simp;omega,HM2,HP,HB.out,by simp;omega⟩
   case measure=>simp[intOf];omega
  ·have Hw:k=l.length:=o_
   have hfs:fs++List.replicate (l.length -k) zSF=fs:=by rw[Hw];simp
   rw[hfs] at HO;rw[Hw,aaB] at HM;clear hcell;go_wp2;go_ret
   exact⟨_,_,fs,rfl,HM.out,HO.out,Hb⟩
theorem z5n (k a b:Int) (vn vl un ul:Value) (ns ls:List Pr) (w:World) (hn:RP w vn ns) (hl:RP w vl ls) (FM:RP w un ns) (Gc:RP w ul ls):
  CB_ 230 #[.agg #[.int .i64 k,.int .i64 a,.int .i64 b,vn,vl],.agg #[.int .i64 k,.int .i64 a,.int .i64 b,un,ul]] w (.bool true):=by
 go_enter Tryz.func230,Tryz.ntmps230
 go_wp2_with fail
 refine(x9 _ _ _ _ ns ls _ (hn.below bel_) (hl.below bel_) (FM.below bel_) (Gc.below bel_)).mono ?_
 rintro e w1 ⟨rfl,h9⟩;go_wp2;go_ret
 exact⟨rfl,by exact bel_⟩
theorem z4r (v u:Value) (l:List Sp) (w:World) (hv:RT w v l) (hu:RT w u l):
  CB_ 173 #[v,u] w (.bool true):=by
 obtain⟨A,c,rfl,hc,hm,hcell⟩:=hv;obtain⟨A',c',rfl,Nn,ce,Hs⟩:=hu;unfold maxLen at hm ce
 go_enter Tryz.func173,Tryz.ntmps173
 go_wp2
 go_loopw [5] (fun i wr=>∃k:Nat,k<=l.length/\i= .int .i64 k/\Below w.heap.size w wr) (fun i _=>l.length -(intOf i).toNat)
 case atStart=>exact⟨0,aab _,rfl,aaj _ _⟩
 case round=>
  obtain⟨k,hk,rfl,Hb⟩:=hrel;have gj:=Hb.size
  by_cases Hd:k<l.length
  ·obtain⟨b,off,rfl,hb,Ho⟩:=hcell o_
   obtain⟨k0,k1,k2,vn,vl,k3,k4,hn,hl⟩:=Ho k Hd;have q0:=(Hb.cell (p:=⟨b,off+k*5,none⟩) hb).trans k0;have q1:=(Hb.cell (p:=⟨b,off+k*5+1,none⟩) hb).trans k1;have q2:=(Hb.cell (p:=⟨b,off+k*5+2,none⟩) hb).trans k2;have q3:=(Hb.cell (p:=⟨b,off+k*5+3,none⟩) hb).trans k3;have q4:=(Hb.cell (p:=⟨b,off+k*5+4,none⟩) hb).trans k4;obtain⟨b',off',rfl,gw,Gw⟩:=Hs o_;obtain⟨j0,j1,j2,un,ul,j3,j4,CK,bS⟩:=Gw k Hd;have p0:=(Hb.cell (p:=⟨b',off'+k*5,none⟩) gw).trans j0;have p1:=(Hb.cell (p:=⟨b',off'+k*5+1,none⟩) gw).trans j1;have p2:=(Hb.cell (p:=⟨b',off'+k*5+2,none⟩) gw).trans j2;have p3:=(Hb.cell (p:=⟨b',off'+k*5+3,none⟩) gw).trans j3;have p4:=(Hb.cell (p:=⟨b',off'+k*5+4,none⟩) gw).trans j4;have FT:(0:Int)<=(k:Int):=o_
   have cf:(k:Int)<(l.length:Int):=o_
   have hn3:=h_ (hn.below Hb);have hl3:=h_ (hl.below Hb);have hn4:=h_ (CK.below Hb);have hl4:=h_ (bS.below Hb);generalize l[k]=s at*;clear k0 k1 k2 k3 k4 Ho hcell j0 j1 j2 j3 j4 Gw Hs hn hl CK bS;go_wp2
   go_still_tail 8,k_
   go_wp2_with fail
   refine(z5n _ _ _ _ _ _ _ s.ns s.ls _ (hn3.out.below bel_) (hl3.out.below bel_) (hn4.out.below bel_) (hl4.out.below bel_)).mono ?_
   rintro e w2 ⟨rfl,He⟩;have gn:Below w.heap.size w w2:=Hb.trans ((show Below wr.heap.size wr w2 from⟨He.os,He.tape,He.output,He.size,He.block⟩).mono gj);clear He;go_wp2;go_roundw
   case rel=>exact⟨k+1,by omega,by go_num,gn⟩
   case measure=>simp[intOf];omega
  ·clear hcell Hs
   go_wp2;go_ret
   exact⟨rfl,Hb⟩
def szD (n:Int) (D:Dr):Int:=
 if szW n D.fn.length D.fl.length<0 then -1 else if szW (szW n D.fn.length D.fl.length) D.nn.length D.nl.length<0 then -1 else szT (szW (szW n D.fn.length D.fl.length) D.nn.length D.nl.length) D.ss
structure DrLe (D:Dr):Prop where
 fn:D.fn.length<=1048576
 fl:D.fl.length<=1048576
 nn:D.nn.length<=1048576
 nl:D.nl.length<=1048576
 ss:D.ss.length<=1048576
 ws:∀k (hk:k<D.ss.length),D.ss[k].ns.length <=1048576/\D.ss[k].ls.length <=1048576
 sum:sumT D.ss<=1048576
theorem zb1 {D:Dr} (h:¬szD 1048576 D<0):DrLe D:=by
 unfold szD at h
 split at h
 ·omega
 ·rename_i h1
  split at h
  ·omega
  ·rename_i h2
   have e1:=ki h1;have e2:=ki h2;have e3:=z5I h;have hs:(sumT D.ss:Int)+D.ss.length<=1048576:=o_
   refine⟨by omega,by omega,by omega,by omega,by omega,fun k hk=>?_,by omega⟩
   have:=z5H D.ss k hk;omega
theorem Ze (v0 v1 v2 v3 v4:Value) (D:Dr) (x:Int) (w:World) (h:RD w v0 v1 v2 v3 v4 D) (hx:Hid (szD 1048576 D=x)):
  CB_ 90 #[.agg #[v0,v1,v2,v3,v4],.int .i64 1048576] w (.int .i64 x):=by
 obtain⟨y,hy⟩:∃y,szW 1048576 D.fn.length D.fl.length=y:=⟨_,rfl⟩;have HY:=h_ hy;have mL:=h.fn;have GB:=h.fl
 by_cases CA:y<0
 ·have fX:=hx.out
  unfold szD at fX;rw[hy,aao CA] at fX;subst fX;clear hy hx
  go_enter Tryz.func90,Tryz.ntmps90
  go_wp2_with fail
  refine(jb _ _ D.fn D.fl 1048576 y _ (mL.below bel_) (GB.below bel_) o_ o_ HY).mono ?_
  rintro e w1 ⟨rfl,h9⟩;go_wp2;go_ret
  exact⟨rfl,by exact bel_⟩
 ·obtain⟨z,hz⟩:∃z,szW y D.nn.length D.nl.length=z:=⟨_,rfl⟩
  have HZ:=h_ hz;have Ch:=h.nn;have fG:=h.nl;have hyv:=ki (show ¬szW 1048576 D.fn.length D.fl.length<0 by rw[hy];exact CA);rw[hy] at hyv;have mX:y<=1048576:=o_
  clear hyv
  by_cases mC:z<0
  ·have fX:=hx.out
   unfold szD at fX;rw[hy,aaq CA,hz,aao mC] at fX;subst fX;clear hy hz hx
   go_enter Tryz.func90,Tryz.ntmps90
   go_wp2_with fail
   refine(jb _ _ D.fn D.fl 1048576 y _ (mL.below bel_) (GB.below bel_) o_ o_ HY).mono ?_
   rintro e w1 ⟨rfl,h9⟩;have Fl:Blk w1 w.heap.size 58 #[v0,v1,v2,v3,v4]:=Blk.below (Blk.newAt rfl) h9 sz_;have h8:Below w.heap.size w w1:=bel_
   clear h9;obtain⟨a_0,a_1,a_2,a_3,a_4⟩:=Fl.c5
   go_wp2_with fail
   refine(jb _ _ D.nn D.nl y z _ (Ch.below h8) (fG.below h8) o_ o_ HZ).mono ?_
   rintro e w2 ⟨rfl,He⟩;have Ha:Below w.heap.size w w2:=h8.trans (He.mono h8.size);go_wp2;go_ret
   exact⟨rfl,Ha⟩
  ·obtain⟨u,hu⟩:∃u,szT z D.ss=u:=⟨_,rfl⟩
   have HU:=h_ hu;have hss:=h.ss;have hzv:=ki (show ¬szW y D.nn.length D.nl.length<0 by rw[hz];exact mC);rw[hz] at hzv;have H8:z<=1048576:=o_
   clear hzv;have fX:=hx.out;unfold szD at fX;rw[hy,aaq CA,hz,aaq mC,hu] at fX;subst fX;have GQ:u<0->u= -1:=fun h0=>by rw[<-hu];exact z9N _ _ (by rw[hu];exact h0)
   by_cases hu0:u<0
   ·have e:=GQ hu0
    subst e;clear hy hz hx hu GQ
    go_enter Tryz.func90,Tryz.ntmps90
    go_wp2_with fail
    refine(jb _ _ D.fn D.fl 1048576 y _ (mL.below bel_) (GB.below bel_) o_ o_ HY).mono ?_
    rintro e w1 ⟨rfl,h9⟩;have Fl:Blk w1 w.heap.size 58 #[v0,v1,v2,v3,v4]:=Blk.below (Blk.newAt rfl) h9 sz_;have h8:Below w.heap.size w w1:=bel_
    clear h9;obtain⟨a_0,a_1,a_2,a_3,a_4⟩:=Fl.c5
    go_wp2_with fail
    refine(jb _ _ D.nn D.nl y z _ (Ch.below h8) (fG.below h8) o_ o_ HZ).mono ?_
    rintro e w2 ⟨rfl,He⟩;have mF:=Fl.below He Fl.lt;have Ha:Below w.heap.size w w2:=h8.trans (He.mono h8.size);clear He Fl a_0 a_1 a_2 a_3 a_4;obtain⟨a_0,a_1,a_2,a_3,a_4⟩:=mF.c5
    go_wp2_with fail
    refine(XL _ D.ss z (-1) _ (hss.below Ha) o_ o_ HU).mono ?_
    rintro e w3 ⟨rfl,Hf⟩;have Hc:Below w.heap.size w w3:=Ha.trans (Hf.mono Ha.size);go_wp2;go_ret
    exact⟨rfl,Hc⟩
   ·clear hy hz hx hu GQ
    go_enter Tryz.func90,Tryz.ntmps90
    go_wp2_with fail
    refine(jb _ _ D.fn D.fl 1048576 y _ (mL.below bel_) (GB.below bel_) o_ o_ HY).mono ?_
    rintro e w1 ⟨rfl,h9⟩;have Fl:Blk w1 w.heap.size 58 #[v0,v1,v2,v3,v4]:=Blk.below (Blk.newAt rfl) h9 sz_;have h8:Below w.heap.size w w1:=bel_
    clear h9;obtain⟨a_0,a_1,a_2,a_3,a_4⟩:=Fl.c5
    go_wp2_with fail
    refine(jb _ _ D.nn D.nl y z _ (Ch.below h8) (fG.below h8) o_ o_ HZ).mono ?_
    rintro e w2 ⟨rfl,He⟩;have mF:=Fl.below He Fl.lt;have Ha:Below w.heap.size w w2:=h8.trans (He.mono h8.size);clear He Fl a_0 a_1 a_2 a_3 a_4;obtain⟨a_0,a_1,a_2,a_3,a_4⟩:=mF.c5
    go_wp2_with fail
    refine(XL _ D.ss z u _ (hss.below Ha) o_ o_ HU).mono ?_
    rintro e w3 ⟨rfl,Hf⟩;have Hc:Below w.heap.size w w3:=Ha.trans (Hf.mono Ha.size);go_wp2;go_ret
    exact⟨rfl,Hc⟩
structure OwnD (base:Nat) (w:World) (a b c d e:Value) (D:Dr) (fs:List SF):Prop where
 first:OwnW base w a b D.fn D.fl
 now:OwnW base w c d D.nn D.nl
 ss:OwnT base w e fs
 map:fs.map Prod.fst=D.ss
 f_n:∀k,zw a b k->¬zw c d k
 f_s:∀k,zw a b k->¬yD e fs k
 n_s:∀k,zw c d k->¬yD e fs k
def qn (a b c d e:Value) (fs:List SF) (k:Nat):Prop:=zw a b k∨zw c d k∨yD e fs k
section
variable {base:Nat} {w w':World} {a b c d e:Value} {D:Dr} {fs:List SF}
theorem OwnD.lt (h:OwnD base w a b c d e D fs) (k:Nat) (hk:qn a b c d e fs k):base<=k/\k<w.heap.size:=by
 rcases hk with hk|hk|hk
 ·exact h.first.lt k hk
 ·exact h.now.lt k hk
 ·exact h.ss.lt k hk
theorem OwnD.turned {S:Nat->Prop} (h:OwnD base w a b c d e D fs) (hb:Turns S w w') (hs:∀k,qn a b c d e fs k->¬S k):OwnD base w' a b c d e D fs:=
 ⟨h.first.turned hb (fun k hk=>hs k (.inl hk)),h.now.turned hb (fun k hk=>hs k (.inr (.inl hk))),h.ss.turned hb (fun k hk=>hs k (.inr (.inr hk))),h.map,h.f_n,h.f_s,h.n_s⟩
theorem OwnD.kept (h:OwnD base w a b c d e D fs) (hb:Below w.heap.size w w'):OwnD base w' a b c d e D fs:=
 h.turned (S:=fun _=>False) (Turns.ofBelow hb) (fun _ _ h=>h)
theorem OwnD.alloc (h:OwnD base w a b c d e D fs) (o:Obj):OwnD base (w.alloc o) a b c d e D fs:=h.kept ((aaj _ _).alloc (aaa _) o)
theorem OwnD.reads (h:OwnD base w a b c d e D fs):RD w a b c d e D:=
 ⟨h.first.1.reads,h.first.2.1.reads,h.now.1.reads,h.now.2.1.reads,by have:=h.ss.reads;rw[h.map] at this;exact this⟩
end
def RetD (D:Dr) (w:World) (e:Ending) (w':World):Prop:=∃A0 c0 A1 c1 A2 c2 A3 c3 A4 c4 fs,
 e= .returned (.agg #[.slice A0 D.fn.length c0,.slice A1 D.fl.length c1,.slice A2 D.nn.length c2,.slice A3 D.nl.length c3,.slice A4 D.ss.length c4])/\
 OwnD w.heap.size w' (.slice A0 D.fn.length c0) (.slice A1 D.fl.length c1) (.slice A2 D.nn.length c2) (.slice A3 D.nl.length c3) (.slice A4 D.ss.length c4) D fs/\Below w.heap.size w w'
theorem z3Y (v0 v1 v2 v3 v4:Value) (D:Dr) (w:World) (h:RD w v0 v1 v2 v3 v4 D) (hle:DrLe D):
  Calls Tryz.prog 94 #[.agg #[v0,v1,v2,v3,v4]] w (RetD D w):=by
 have mL:=h.fn;have GB:=h.fl
 go_enter Tryz.func94,Tryz.ntmps94
 go_wp2_with fail
 refine(x7 _ _ D.fn D.fl _ (mL.below bel_) (GB.below bel_) hle.fn hle.fl).mono ?_
 rintro e w1 ⟨A0,c0,A1,c1,rfl,Hj,h9⟩;have H8:=h9.size;simp at H8
 have gh:Blk w1 w.heap.size 58 #[v0,v1,v2,v3,v4]:=Blk.below (((Blk.newAt rfl).alloc _).alloc _) h9 sz_;have gu:Blk w1 (w.heap.size+1) 30 z5_:=Blk.below ((Blk.newAt (by simp)).alloc _) h9 sz_;have nh:Blk w1 (w.heap.size+1+1) 30 z5_:=Blk.below (Blk.newAt (by simp)) h9 sz_;have Gi:OwnW (w.heap.size+1+1+1) w1 (.slice A0 D.fn.length c0) (.slice A1 D.fl.length c1) D.fn D.fl:=by simpa using Hj
 have h8:Below w.heap.size w w1:=bel_
 clear h9 Hj;obtain⟨x_0,x_1,x_2,x_3,x_4,x_f0,x_f1,x_f2,x_f3,x_f4⟩:=gh.b5;obtain⟨s_0,s_1,s_2,s_3,s_4,s_f0,s_f1,s_f2,s_f3,s_f4⟩:=nh.b5
 go_wp2_with fail
 obtain⟨u1,cE⟩:∃u1,u1=((w1.setCell ⟨w.heap.size+1+1,0,none⟩ (.slice A0 D.fn.length c0)).setCell ⟨w.heap.size+1+1,1,none⟩ (.slice A1 D.fl.length c1)):=⟨_,rfl⟩;rw[<-cE];have mX:u1.heap.size=w1.heap.size:=by rw[cE];simp
 have ni:Blk u1 w.heap.size 58 #[v0,v1,v2,v3,v4]:=cE▸(gh.far (p:=⟨w.heap.size+1+1,0,none⟩) (by show _≠w.heap.size+1+1;omega) _).far (p:=⟨w.heap.size+1+1,1,none⟩) (by show _≠w.heap.size+1+1;omega) _;have nj:Blk u1 (w.heap.size+1) 30 z5_:=cE▸(gu.far (p:=⟨w.heap.size+1+1,0,none⟩) (by show _≠w.heap.size+1+1;omega) _).far (p:=⟨w.heap.size+1+1,1,none⟩) (by show _≠w.heap.size+1+1;omega) _;have nm:Blk u1 (w.heap.size+1+1) 30 #[.slice A0 D.fn.length c0,.slice A1 D.fl.length c1,.slice none 0 0,.slice none 0 0,.slice none 0 0]:=cE▸(nh.set_ 0 _).set_ 1 _;have np:OwnW (w.heap.size+1+1+1) u1 (.slice A0 D.fn.length c0) (.slice A1 D.fl.length c1) D.fn D.fl:=cE▸(Gi.setLow (p:=⟨w.heap.size+1+1,0,none⟩) (aaC _) _).setLow (p:=⟨w.heap.size+1+1,1,none⟩) (aaC _) _;have bZ:Below w.heap.size w u1:=cE▸(h8.setCell (p:=⟨w.heap.size+1+1,0,none⟩) sz_ _).setCell (p:=⟨w.heap.size+1+1,1,none⟩) sz_ _;clear cE gh gu nh Gi h8 x_0 x_1 x_2 x_3 x_4 s_0 s_1 s_2 s_3 s_4 x_f0 x_f1 x_f2 x_f3 x_f4 s_f0 s_f1 s_f2 s_f3 s_f4;refine(x7 _ _ D.nn D.nl _ (h.nn.below bZ) (h.nl.below bZ) hle.nn hle.nl).mono ?_
 rintro e w2 ⟨A2,c2,A3,c3,rfl,Hm,He⟩;have Gd:=He.size;have G7:=ni.below He ni.lt;have GF:=nj.below He nj.lt;have fh:=nm.below He nm.lt;have Cd:=np.kept He;have Hr:=np.lt;have Ha:=bZ.trans (He.mono bZ.size);clear He ni nj nm np bZ;obtain⟨x_0,x_1,x_2,x_3,x_4,x_f0,x_f1,x_f2,x_f3,x_f4⟩:=G7.b5;obtain⟨s_0,s_1,s_2,s_3,s_4,s_f0,s_f1,s_f2,s_f3,s_f4⟩:=fh.b5
 go_wp2_with fail
 obtain⟨u2,Bv⟩:∃u2,u2=((w2.setCell ⟨w.heap.size+1+1,2,none⟩ (.slice A2 D.nn.length c2)).setCell ⟨w.heap.size+1+1,3,none⟩ (.slice A3 D.nl.length c3)):=⟨_,rfl⟩;rw[<-Bv];have hy2:u2.heap.size=w2.heap.size:=by rw[Bv];simp
 have nq:Blk u2 (w.heap.size+1) 30 z5_:=Bv▸(GF.far (p:=⟨w.heap.size+1+1,2,none⟩) (by show _≠w.heap.size+1+1;omega) _).far (p:=⟨w.heap.size+1+1,3,none⟩) (by show _≠w.heap.size+1+1;omega) _;have nr:Blk u2 (w.heap.size+1+1) 30 #[.slice A0 D.fn.length c0,.slice A1 D.fl.length c1,.slice A2 D.nn.length c2,.slice A3 D.nl.length c3,.slice none 0 0]:=Bv▸(fh.set_ 2 _).set_ 3 _;have Ul:OwnW (w.heap.size+1+1+1) u2 (.slice A0 D.fn.length c0) (.slice A1 D.fl.length c1) D.fn D.fl:=Bv▸(Cd.setLow (p:=⟨w.heap.size+1+1,2,none⟩) (aaC _) _).setLow (p:=⟨w.heap.size+1+1,3,none⟩) (aaC _) _;have nt:OwnW u1.heap.size u2 (.slice A2 D.nn.length c2) (.slice A3 D.nl.length c3) D.nn D.nl:=Bv▸(Hm.setLow (p:=⟨w.heap.size+1+1,2,none⟩) (by show w.heap.size+1+1<_;omega) _).setLow (p:=⟨w.heap.size+1+1,3,none⟩) (by show w.heap.size+1+1<_;omega) _;have BU:Below w.heap.size w u2:=Bv▸(Ha.setCell (p:=⟨w.heap.size+1+1,2,none⟩) sz_ _).setCell (p:=⟨w.heap.size+1+1,3,none⟩) sz_ _;clear Bv G7 GF fh Cd Hm Ha x_0 x_1 x_2 x_3 x_4 s_0 s_1 s_2 s_3 s_4 x_f0 x_f1 x_f2 x_f3 x_f4 s_f0 s_f1 s_f2 s_f3 s_f4;refine(z3P _ D.ss _ (h.ss.below BU) hle.ss hle.ws).mono ?_
 rintro e w3 ⟨A4,c4,fs,rfl,hmap,Hq,Hf⟩;have GK:=nq.below Hf nq.lt;have FX:=nr.below Hf nr.lt;have GM:=Ul.kept Hf;have cd:=nt.kept Hf;have Ff:=nt.lt;have Hc:=BU.trans (Hf.mono BU.size);have gp:=Hq.lt;have n1:w.heap.size+1<w3.heap.size:=GK.lt;have n2:w.heap.size+1+1<w3.heap.size:=FX.lt;clear Hf nq nr Ul nt BU
 have hH:∀(v w0 w1 w2 w3' w4:Value),Hid (OwnD w.heap.size (((((((w3.setCell ⟨w.heap.size+1+1,4,none⟩ v).setCell ⟨w.heap.size+1,0,none⟩ w0).setCell ⟨w.heap.size+1,1,none⟩ w1).setCell ⟨w.heap.size+1,2,none⟩ w2).setCell ⟨w.heap.size+1,3,none⟩ w3').setCell ⟨w.heap.size+1,4,none⟩ w4)) (.slice A0 D.fn.length c0) (.slice A1 D.fl.length c1) (.slice A2 D.nn.length c2) (.slice A3 D.nl.length c3) (.slice A4 D.ss.length c4) D fs):=by
  intro v w0 w1' w2' w3' w4
  have hD:OwnD w.heap.size w3 (.slice A0 D.fn.length c0) (.slice A1 D.fl.length c1) (.slice A2 D.nn.length c2) (.slice A3 D.nl.length c3) (.slice A4 D.ss.length c4) D fs:=
   ⟨GM.mono o_,cd.mono o_,Hq.mono o_,hmap,fun k h1 h2=>by have:=(Hr k h1).2;have:=(Ff k h2).1;omega,fun k h1 h2=>by have:=(Hr k h1).2;have:=(gp k h2).1;omega,fun k h1 h2=>by have:=(Ff k h1).2;have:=(gp k h2).1;omega⟩
  have br:∀k,qn (.slice A0 D.fn.length c0) (.slice A1 D.fl.length c1) (.slice A2 D.nn.length c2) (.slice A3 D.nl.length c3) (.slice A4 D.ss.length c4) fs k->w.heap.size+1+1<k:=by
   rintro k (hk|hk|hk)
   ·have:=(Hr k hk).1;omega
   ·have:=(Ff k hk).1;omega
   ·have:=(gp k hk).1;omega
  have step:∀(W:World) (g j:Nat) (u:Value),g<=w.heap.size+1+1->OwnD w.heap.size W (.slice A0 D.fn.length c0) (.slice A1 D.fl.length c1) (.slice A2 D.nn.length c2) (.slice A3 D.nl.length c3) (.slice A4 D.ss.length c4) D fs->OwnD w.heap.size (W.setCell ⟨g,j,none⟩ u) (.slice A0 D.fn.length c0) (.slice A1 D.fl.length c1) (.slice A2 D.nn.length c2) (.slice A3 D.nl.length c3) (.slice A4 D.ss.length c4) D fs:=
   fun W g j u hg hW=>hW.turned (S:=fun b=>b=g) (Turns.ofGrown (qR W ⟨g,j,none⟩ u) (fun k hk=>by cases hk;rfl)) (fun b hb e=>by have:=br b hb;omega)
  exact h_ (step _ _ _ _ o_ (step _ _ _ _ o_ (step _ _ _ _ o_ (step _ _ _ _ o_ (step _ _ _ _ o_ (step _ _ _ _ o_ hD))))))
 have hB:∀(v w0 w1 w2 w3' w4:Value),Hid (Below w.heap.size w (((((((w3.setCell ⟨w.heap.size+1+1,4,none⟩ v).setCell ⟨w.heap.size+1,0,none⟩ w0).setCell ⟨w.heap.size+1,1,none⟩ w1).setCell ⟨w.heap.size+1,2,none⟩ w2).setCell ⟨w.heap.size+1,3,none⟩ w3').setCell ⟨w.heap.size+1,4,none⟩ w4))):=fun v w0 w1 w2 w3' w4=>h_
  ((((((Hc.setCell (p:=⟨w.heap.size+1+1,4,none⟩) sz_ v).setCell (p:=⟨w.heap.size+1,0,none⟩) sz_ w0).setCell (p:=⟨w.heap.size+1,1,none⟩) sz_ w1).setCell (p:=⟨w.heap.size+1,2,none⟩) sz_ w2).setCell (p:=⟨w.heap.size+1,3,none⟩) sz_ w3').setCell (p:=⟨w.heap.size+1,4,none⟩) sz_ w4)
 clear GM cd Hq Hc Hr Ff gp;obtain⟨r_0,r_1,r_2,r_3,r_4,r_f0,r_f1,r_f2,r_f3,r_f4⟩:=GK.b5;obtain⟨s_0,s_1,s_2,s_3,s_4,s_f0,s_f1,s_f2,s_f3,s_f4⟩:=FX.b5;go_wp2;exact bodyPost_ret (v:= .agg #[.slice A0 D.fn.length c0,.slice A1 D.fl.length c1,.slice A2 D.nn.length c2,.slice A3 D.nl.length c3,.slice A4 D.ss.length c4]) (by simp[results,Tryz.results94,go_sem,r_0,r_1,r_2,r_3,r_4,s_0,s_1,s_2,s_3,s_4,n1,n2]) rfl ⟨_,_,_,_,_,_,_,_,_,_,fs,rfl,(hH _ _ _ _ _ _).out,(hB _ _ _ _ _ _).out⟩
theorem z2y (v0 v1 v2 v3 v4 u0 u1 u2 u3 u4:Value) (D:Dr) (w:World) (h:RD w v0 v1 v2 v3 v4 D) (g:RD w u0 u1 u2 u3 u4 D):
  CB_ 97 #[.agg #[v0,v1,v2,v3,v4],.agg #[u0,u1,u2,u3,u4]] w (.bool true):=by
 have a1:=h.fn;have a2:=h.fl;have b1:=g.fn;have b2:=g.fl
 go_enter Tryz.func97,Tryz.ntmps97
 go_wp2_with fail
 refine(x9 _ _ _ _ D.fn D.fl _ (a1.below bel_) (a2.below bel_) (b1.below bel_) (b2.below bel_)).mono ?_
 rintro e w1 ⟨rfl,h9⟩;have gh:Blk w1 w.heap.size 30 #[v0,v1,v2,v3,v4]:=Blk.below ((Blk.newAt rfl).alloc _) h9 sz_;have U7:Blk w1 (w.heap.size+1) 30 #[u0,u1,u2,u3,u4]:=Blk.below (Blk.newAt (by simp)) h9 sz_;have h8:Below w.heap.size w w1:=bel_
 clear h9;obtain⟨x_0,x_1,x_2,x_3,x_4⟩:=gh.c5;obtain⟨y_0,y_1,y_2,y_3,y_4⟩:=U7.c5
 go_wp2_with fail
 refine(x9 _ _ _ _ D.nn D.nl _ (h.nn.below h8) (h.nl.below h8) (g.nn.below h8) (g.nl.below h8)).mono ?_
 rintro e w2 ⟨rfl,He⟩;have G7:=gh.below He gh.lt;have MN:=U7.below He U7.lt;have Ha:=h8.trans (He.mono h8.size);clear He gh U7 x_0 x_1 x_2 x_3 x_4 y_0 y_1 y_2 y_3 y_4;obtain⟨x_0,x_1,x_2,x_3,x_4⟩:=G7.c5;obtain⟨y_0,y_1,y_2,y_3,y_4⟩:=MN.c5
 go_wp2_with fail
 refine(z4r _ _ D.ss _ (h.ss.below Ha) (g.ss.below Ha)).mono ?_
 rintro e w3 ⟨rfl,Hf⟩;have Hc:=Ha.trans (Hf.mono Ha.size);go_wp2;go_ret
 exact⟨rfl,Hc⟩
end Go.Proofs.YtnjcpljhmhdhkaaGreat
