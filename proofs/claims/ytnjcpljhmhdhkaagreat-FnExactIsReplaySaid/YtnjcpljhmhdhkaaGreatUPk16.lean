/- part 16 -/
import Derived.Test.YtnjcpljhmhdhkaaGreatUPk9
import Derived.Test.YtnjcpljhmhdhkaaGreatUPk15
set_option linter.unusedSimpArgs false
set_option linter.unusedVariables false
set_option maxRecDepth 100000
set_option maxHeartbeats 8000000
namespace Go.Proofs.YtnjcpljhmhdhkaaGreat
open Go.ChangeShapes Go.WideShapes Go.Deep Go.RowKit Go.Joins
structure St where
 D:Dr
 cs:List Int
 ds:List Dp
 fund:Int
@[reducible,simp] def s8_ (a b c d e f g:Option Addr) (i j k l m n o:Nat) (S:St):Array Value:=#[.slice a S.D.fn.length i,.slice b S.D.fl.length j,.slice c S.D.nn.length k,.slice d S.D.nl.length l,.slice e S.D.ss.length m,.slice f S.cs.length n,.slice g S.ds.length o,.int .i64 S.fund]
structure RSt (w:World) (a b c d e f g:Value) (S:St):Prop where
 dr:RD w a b c d e S.D
 cs:RI w f S.cs
 ds:RDp w g S.ds
theorem RSt.below {w w':World} {a b c d e f g:Value} {S:St} (h:RSt w a b c d e f g S) (hb:Below w.heap.size w w'):RSt w' a b c d e f g S:=
 ⟨h.dr.below hb,h.cs.below hb,h.ds.below hb⟩
section
variable {H:Type} {enc:TypeId×Value->H} {w:World} {base:Nat} {spare:Nat->Bool} {Gg:Bool}
theorem list8 {α:Type} {l:List α} (h:l.length=8):∃a b c d e f g i,l=[a,b,c,d,e,f,g,i]:=by
 match l,h with
 | [a,b,c,d,e,f,g,i],_=>exact⟨a,b,c,d,e,f,g,i,rfl⟩
theorem z51 {n:Nat} {cs:List Value} {x:DataW H×List MemPlace} (h:DataW.trod enc Tryz.prog w base spare Gg n 58 cs=some x):
  ∃u0 u1 u2 u3 u4 D,cs=[u0,u1,u2,u3,u4]/\RD w u0 u1 u2 u3 u4 D:=by
 obtain⟨ys,m,_,_,Ho,fM,hf⟩:=DataW.trod_struct Tryz.underlying58 h;have hC:Tryz.prog.cellsOf 58=5:=by kernel_rfl
 rw[hC] at Ho;obtain⟨u0,u1,u2,u3,u4,rfl⟩:=list5 Ho;have YH:ys.length=3:=fM;have h0:DataW.trod enc Tryz.prog w base spare Gg m 55 (List.take (Tryz.prog.cellsOf 55) (List.drop 0 [u0,u1,u2,u3,u4]))=ys[0]? :=hf 0 _ rfl;have h1:DataW.trod enc Tryz.prog w base spare Gg m 55 (List.take (Tryz.prog.cellsOf 55) (List.drop 2 [u0,u1,u2,u3,u4]))=ys[1]? :=hf 1 _ rfl;have h2:DataW.trod enc Tryz.prog w base spare Gg m 56 (List.take (Tryz.prog.cellsOf 56) (List.drop 4 [u0,u1,u2,u3,u4]))=ys[2]? :=hf 2 _ rfl;rw[aac (show 0<ys.length by omega)] at h0;rw[aac (show 1<ys.length by omega)] at h1;rw[aac (show 2<ys.length by omega)] at h2;have c0:Tryz.prog.cellsOf 56=1:=by kernel_rfl
 have c1:Tryz.prog.cellsOf 55=2:=by kernel_rfl
 simp only[c0,c1,List.drop_zero,List.drop_succ_cons,List.take_succ_cons,List.take_zero] at h0 h1 h2
 obtain⟨fn,fl,mL,GB⟩:=xF h0;obtain⟨nn,nl,Ch,fG⟩:=xF h1;obtain⟨ss,hss⟩:=z5m h2;exact⟨u0,u1,u2,u3,u4,⟨fn,fl,nn,nl,ss⟩,rfl,mL,GB,Ch,fG,hss⟩
theorem z6S {n:Nat} {v:Value} {x:DataW H×List MemPlace} (h:DataW.trod enc Tryz.prog w base spare Gg n 31 [v]=some x):∃zs:List Int,RI w v zs:=by
 rcases open_ints Tryz.underlying31 Tryz.underlying3 k_ h with ⟨Gu,hx⟩|⟨a,len,cap,zs,Gu,_,hl,hm,hz,hx,hcell,hwz⟩
 ·simp only[List.cons.injEq,and_true] at Gu
  subst Gu;exact⟨[],RS.nil _ _⟩
 ·simp only[List.cons.injEq,and_true] at Gu
  subst Gu;have hle:len<=zs.length:=by rw[hz];split<;>omega
  have Hi:(zs.take len).length =len:=by simp;omega
  refine⟨zs.take len,⟨by simp,some a,cap,by rw[Hi],by rw[Hi];exact hl,by rw[Hi];omega,fun hn=>?_⟩⟩
  have h0:=hcell 0 o_;obtain⟨ab,ao,spot⟩:=a;have NY:spot=none:=by simpa[Addr.add] using World.cell?_spot h0
  subst NY;refine⟨ab,ao,rfl,?_,fun j u hu=>?_⟩
  ·have:=World.block_lt_of_cell? w _ h0
   simpa[Addr.add] using this
  ·have hj:j<len:=by
    have h1:=(List.getElem?_eq_some_iff.1 hu).1;simp at h1
    omega
   have hc:=hcell j o_;have e1:zs.getD j 0=zs[j]:=by simp[List.getD,aac (show j<zs.length by omega)]
   rw[e1] at hc
   have mu:u= .int .i64 zs[j]:=by
    rw[aau,List.getElem?_take,aao hj,aac o_] at hu
    simpa[vI] using hu.symm
   rw[mu]
   by_cases h0:j=0
   ·subst h0;simpa[Addr.add] using hc
   ·simpa[Addr.add,h0] using hc
theorem z7R {n:Nat} {v:Value} {x:DataW H×List MemPlace} (h:DataW.trod enc Tryz.prog w base spare Gg n 59 [v]=some x):∃l:List Dp,RDp w v l:=by
 have hv:∃A len cap,v= .slice A len cap:=by
  rcases open_slice Tryz.underlying59 h with ⟨Gu,_⟩|⟨a,len,cap,m,n',D,Pl,Gu,_⟩
  ·simp only[List.cons.injEq,and_true] at Gu
   exact⟨_,_,_,Gu⟩
  ·simp only[List.cons.injEq,and_true] at Gu
   exact⟨_,_,_,Gu⟩
 obtain⟨A,len,cap,rfl⟩:=hv;exact z2r h
theorem zaA {v:Value} {d:DataW H} {p:List MemPlace} (hval:Value.okWide Tryz.prog w .any base 61 v) (h:DataW.Trod enc Tryz.prog w 0 spare Gg 61 v d p):
  ∃v0 v1 v2 v3 v4 v5 v6 S,v= .agg #[v0,v1,v2,v3,v4,v5,v6,.int .i64 (St.fund S)]/\RSt w v0 v1 v2 v3 v4 v5 v6 S:=by
 obtain⟨cs,rfl,gj⟩:=okWide_struct Tryz.underlying61 hval;have hC:Tryz.prog.cellsOf 61=8:=by kernel_rfl
 rw[hC] at gj;obtain⟨fuel,hf⟩:=h;obtain⟨ys,m,_,_,Ho,fM,hf⟩:=DataW.trod_struct Tryz.underlying61 hf;obtain⟨cs⟩:=cs;obtain⟨u0,u1,u2,u3,u4,u5,u6,u7,rfl⟩:=list8 (show cs.length=8 from gj);have YH:ys.length=4:=fM;have h0:DataW.trod enc Tryz.prog w 0 spare Gg m 58 (List.take (Tryz.prog.cellsOf 58) (List.drop 0 [u0,u1,u2,u3,u4,u5,u6,u7]))=ys[0]? :=hf 0 _ rfl;have h1:DataW.trod enc Tryz.prog w 0 spare Gg m 31 (List.take (Tryz.prog.cellsOf 31) (List.drop 5 [u0,u1,u2,u3,u4,u5,u6,u7]))=ys[1]? :=hf 1 _ rfl;have h2:DataW.trod enc Tryz.prog w 0 spare Gg m 59 (List.take (Tryz.prog.cellsOf 59) (List.drop 6 [u0,u1,u2,u3,u4,u5,u6,u7]))=ys[2]? :=hf 2 _ rfl;have h3:DataW.trod enc Tryz.prog w 0 spare Gg m 3 (List.take (Tryz.prog.cellsOf 3) (List.drop 7 [u0,u1,u2,u3,u4,u5,u6,u7]))=ys[3]? :=hf 3 _ rfl;rw[aac (show 0<ys.length by omega)] at h0;rw[aac (show 1<ys.length by omega)] at h1;rw[aac (show 2<ys.length by omega)] at h2;rw[aac (show 3<ys.length by omega)] at h3;have c0:Tryz.prog.cellsOf 58=5:=by kernel_rfl
 have c1:Tryz.prog.cellsOf 31=1:=by kernel_rfl
 have c2:Tryz.prog.cellsOf 59=1:=by kernel_rfl
 have c3:Tryz.prog.cellsOf 3=1:=by kernel_rfl
 simp only[c0,c1,c2,c3,Value.cells,List.drop_zero,List.drop_succ_cons,List.take_succ_cons,List.take_zero] at h0 h1 h2 h3
 obtain⟨w0,w1,w2,w3,w4,D,e,hD⟩:=z51 h0;simp only[List.cons.injEq,and_true] at e
 obtain⟨rfl,rfl,rfl,rfl,rfl⟩:=e;obtain⟨zs,NZ⟩:=z6S h1;obtain⟨l,hl⟩:=z7R h2;obtain⟨k,e3,_,_⟩:=DataW.trod_int Tryz.underlying3 h3;simp at e3
 subst e3;exact⟨u0,u1,u2,u3,u4,u5,u6,⟨D,zs,l,k⟩,rfl,hD,NZ,hl⟩
end
def szSt (S:St):Int:=
 if szD 1048576 S.D<0 then -1 else if szF (szD 1048576 S.D) S.cs.length<0 then -1 else szF (szF (szD 1048576 S.D) S.cs.length) S.ds.length
structure StLe (S:St):Prop where
 D:DrLe S.D
 cs:S.cs.length<=1048576
 ds:S.ds.length<=1048576
theorem z5j {D:Dr} (h:¬szD 1048576 D<0):szD 1048576 D<=1048576:=by
 unfold szD at h⊢
 split
 ·omega
 ·rename_i h1
  rw[aaq h1] at h
  split
  ·omega
  ·rename_i h2
   rw[aaq h2] at h;have e1:=ki h1;have e2:=ki h2;have e3:=z5I h;omega
theorem Zv {n:Int} {k:Nat} (h:¬szF n k<0):szF n k=n -k/\(k:Int)<=n:=by
 unfold szF at h⊢
 split
 ·rename_i h1;rw[aao h1] at h;omega
 ·omega
theorem za8 {S:St} (h:¬szSt S<0):StLe S:=by
 unfold szSt at h
 split at h
 ·omega
 ·rename_i h1
  split at h
  ·omega
  ·rename_i h2
   have e0:=z5j h1;have e1:=Zv h2;have e2:=Zv h;exact⟨zb1 h1,by omega,by omega⟩
theorem zar {n:Int} {k:Nat} (h:szF n k<0):szF n k= -1∨n<0:=by
 unfold szF at h⊢
 split
 ·exact .inl rfl
 ·rename_i h1;rw[aaq h1] at h;right;omega
theorem xI (v0 v1 v2 v3 v4 v5 v6:Value) (S:St) (x:Int) (w:World) (h:RSt w v0 v1 v2 v3 v4 v5 v6 S) (hx:Hid (szSt S=x)):
  CB_ 26 #[.agg #[v0,v1,v2,v3,v4,v5,v6,.int .i64 S.fund],.int .i64 1048576] w (.int .i64 x):=by
 obtain⟨y,hy⟩:∃y,szD 1048576 S.D=y:=⟨_,rfl⟩;have HY:=h_ hy;have bz:=h.dr
 by_cases CA:y<0
 ·have fX:=hx.out
  unfold szSt at fX;rw[hy,aao CA] at fX;subst fX
  go_enter Tryz.func26,Tryz.ntmps26
  go_wp2_with fail
  refine(Ze _ _ _ _ _ S.D y _ (bz.below bel_) HY).mono ?_
  rintro e w1 ⟨rfl,h9⟩;go_wp2;go_ret
  exact⟨rfl,by exact bel_⟩
 ·have yub:y<=1048576:=by rw[<-hy];exact z5j (by rw[hy];exact CA)
  obtain⟨z,hz⟩:∃z,szF y S.cs.length=z:=⟨_,rfl⟩;have HZ:=h_ hz
  by_cases mC:z<0
  ·have fX:=hx.out
   unfold szSt at fX;rw[hy,aaq CA,hz,aao mC] at fX;subst fX
   go_enter Tryz.func26,Tryz.ntmps26
   go_wp2_with fail
   refine(Ze _ _ _ _ _ S.D y _ (bz.below bel_) HY).mono ?_
   rintro e w1 ⟨rfl,h9⟩;have h8:Below w.heap.size w w1:=bel_
   have gh:Blk w1 w.heap.size 61 #[v0,v1,v2,v3,v4,v5,v6,.int .i64 S.fund]:=Blk.below (Blk.newAt rfl) h9 sz_;obtain⟨x_0,x_1,x_2,x_3,x_4,x_5,x_6,x_7⟩:=gh.c8
   go_wp2_with fail
   refine(z4f _ S.cs y _ (h.cs.below h8) o_ o_).mono ?_
   rintro e w' ⟨rfl,rfl⟩;rw[HZ.out];go_wp2;go_ret
   exact⟨rfl,h8⟩
  ·have zub:z<=1048576:=by have:=(Zv (n:=y) (k:=S.cs.length) (by rw[hz];exact mC)).1;omega
   have HW:Hid (szF z S.ds.length=x):=h_ (by
    have fX:=hx.out;unfold szSt at fX;rw[hy,aaq CA,hz,aaq mC] at fX;exact fX)
   by_cases GU:x<0
   all_goals
    have CM:x<0->x= -1:=fun hh=>by
     rcases zar (n:=z) (k:=S.ds.length) (by rw[HW.out];exact hh) with h1|h1
     ·rw[HW.out] at h1;exact h1
     ·omega
    have HX1:=h_ CM
    go_enter Tryz.func26,Tryz.ntmps26
    go_wp2_with fail
    refine(Ze _ _ _ _ _ S.D y _ (bz.below bel_) HY).mono ?_
    rintro e w1 ⟨rfl,h9⟩;have h8:Below w.heap.size w w1:=bel_
    have gh:Blk w1 w.heap.size 61 #[v0,v1,v2,v3,v4,v5,v6,.int .i64 S.fund]:=Blk.below (Blk.newAt rfl) h9 sz_;obtain⟨x_0,x_1,x_2,x_3,x_4,x_5,x_6,x_7⟩:=gh.c8
    go_wp2_with fail
    refine(z4f _ S.cs y _ (h.cs.below h8) o_ o_).mono ?_
    rintro e w' ⟨rfl,rfl⟩;rw[HZ.out]
    go_wp2_with fail
    refine(Vh _ S.ds z _ (h.ds.below h8) o_ o_).mono ?_
    rintro e w' ⟨rfl,rfl⟩;rw[HW.out];go_wp2;go_ret
    first
     |exact⟨zb (HX1.out (by assumption)).symm,h8⟩
     |exact⟨rfl,h8⟩
structure OwnSt (base:Nat) (w:World) (a b c d e f g:Value) (S:St) (fs:List SF):Prop where
 dr:OwnD base w a b c d e S.D fs
 cs:OwnI base w f S.cs
 ds:zk base w g S.ds
 d_c:∀k,qn a b c d e fs k->¬f.ownBlock=some k
 d_d:∀k,qn a b c d e fs k->¬g.ownBlock=some k
 c_d:∀k,f.ownBlock=some k->¬g.ownBlock=some k
def qv (a b c d e f g:Value) (fs:List SF) (k:Nat):Prop:=qn a b c d e fs k∨f.ownBlock=some k∨g.ownBlock=some k
section
variable {base:Nat} {w w':World} {a b c d e f g:Value} {S:St} {fs:List SF}
theorem OwnSt.lt (h:OwnSt base w a b c d e f g S fs) (k:Nat) (hk:qv a b c d e f g fs k):base<=k/\k<w.heap.size:=by
 rcases hk with hk|hk|hk
 ·exact h.dr.lt k hk
 ·exact h.cs.lt k hk
 ·exact World.ownsRow.lt h.ds k hk
theorem OwnSt.turned {T:Nat->Prop} (h:OwnSt base w a b c d e f g S fs) (hb:Turns T w w') (hs:∀k,qv a b c d e f g fs k->¬T k):OwnSt base w' a b c d e f g S fs:=
 ⟨h.dr.turned hb (fun k hk=>hs k (.inl hk)),zQ h.cs hb (fun k hk=>hs k (.inr (.inl hk))),zQ h.ds hb (fun k hk=>hs k (.inr (.inr hk))),h.d_c,h.d_d,h.c_d⟩
theorem OwnSt.kept (h:OwnSt base w a b c d e f g S fs) (hb:Below w.heap.size w w'):OwnSt base w' a b c d e f g S fs:=
 h.turned (T:=fun _=>False) (Turns.ofBelow hb) (fun _ _ h=>h)
theorem OwnSt.alloc (h:OwnSt base w a b c d e f g S fs) (o:Obj):OwnSt base (w.alloc o) a b c d e f g S fs:=h.kept ((aaj _ _).alloc (aaa _) o)
theorem OwnSt.setLow (h:OwnSt base w a b c d e f g S fs) {p:Addr} (hp:p.block<base) (u:Value):OwnSt base (w.setCell p u) a b c d e f g S fs:=
 h.turned (T:=fun b=>b=p.block) (Turns.ofGrown (qR w p u) (fun k hk=>by cases hk;rfl)) (fun k hk e=>by have:=(h.lt k hk).1;omega)
theorem OwnD.setLow {D:Dr} (h:OwnD base w a b c d e D fs) {p:Addr} (hp:p.block<base) (u:Value):OwnD base (w.setCell p u) a b c d e D fs:=
 h.turned (S:=fun b=>b=p.block) (Turns.ofGrown (qR w p u) (fun k hk=>by cases hk;rfl)) (fun k hk e=>by have:=(h.lt k hk).1;omega)
theorem zk.mono {base base':Nat} {w:World} {v:Value} {l:List Dp} (h:zk base w v l) (hb:base'<=base):zk base' w v l:=by
 obtain⟨h1,h2⟩:=h;refine⟨h1,?_⟩
 rcases h2 with h2|⟨g,cap,cur,e1,e2,e3⟩
 ·exact .inl h2
 ·exact .inr ⟨g,cap,cur,e1,aai hb e2,e3⟩
theorem OwnSt.mono {base':Nat} (h:OwnSt base w a b c d e f g S fs) (hb:base'<=base):OwnSt base' w a b c d e f g S fs:=
 ⟨h.dr.mono hb,h.cs.mono hb,h.ds.mono hb,h.d_c,h.d_d,h.c_d⟩
theorem OwnSt.reads (h:OwnSt base w a b c d e f g S fs):RSt w a b c d e f g S:=⟨h.dr.reads,h.cs.reads,h.ds.reads⟩
theorem zk.form {base:Nat} {w:World} {v:Value} {l:List Dp} (h:zk base w v l):∃A c,v= .slice A l.length c:=by
 obtain⟨A,c,e,_⟩:=h.reads.form;exact⟨A,c,e⟩
end
def z5C (S:St) (w:World) (e:Ending) (w':World):Prop:=∃A0 ac0 A1 ac1 A2 ac2 A3 ac3 A4 ac4 A5 ac5 A6 ac6 fs,e= .returned (.agg #[.slice A0 S.D.fn.length ac0,.slice A1 S.D.fl.length ac1,.slice A2 S.D.nn.length ac2,.slice A3 S.D.nl.length ac3,.slice A4 S.D.ss.length ac4,.slice A5 S.cs.length ac5,.slice A6 S.ds.length ac6,.int .i64 S.fund])/\
 OwnSt w.heap.size w' (.slice A0 S.D.fn.length ac0) (.slice A1 S.D.fl.length ac1) (.slice A2 S.D.nn.length ac2) (.slice A3 S.D.nl.length ac3) (.slice A4 S.D.ss.length ac4) (.slice A5 S.cs.length ac5) (.slice A6 S.ds.length ac6) S fs/\Below w.heap.size w w'
def yk (S:St) (b:Bool) (w:World) (e:Ending) (w':World):Prop:=∃A0 ac0 A1 ac1 A2 ac2 A3 ac3 A4 ac4 A5 ac5 A6 ac6 fs,e= .returned (.tuple #[.agg #[.slice A0 S.D.fn.length ac0,.slice A1 S.D.fl.length ac1,.slice A2 S.D.nn.length ac2,.slice A3 S.D.nl.length ac3,.slice A4 S.D.ss.length ac4,.slice A5 S.cs.length ac5,.slice A6 S.ds.length ac6,.int .i64 S.fund],.bool b])/\
 OwnSt w.heap.size w' (.slice A0 S.D.fn.length ac0) (.slice A1 S.D.fl.length ac1) (.slice A2 S.D.nn.length ac2) (.slice A3 S.D.nl.length ac3) (.slice A4 S.D.ss.length ac4) (.slice A5 S.cs.length ac5) (.slice A6 S.ds.length ac6) S fs/\Below w.heap.size w w'
theorem vE (v0 v1 v2 v3 v4 v5 v6:Value) (S:St) (w:World) (h:RSt w v0 v1 v2 v3 v4 v5 v6 S) (hle:StLe S):
  Calls Tryz.prog 28 #[.agg #[v0,v1,v2,v3,v4,v5,v6,.int .i64 S.fund]] w (z5C S w):=by
 have bz:=h.dr;have Gu:=h.cs;have nw:=h.ds
 go_enter Tryz.func28,Tryz.ntmps28
 go_wp2_with fail
 refine(z3Y _ _ _ _ _ S.D _ (bz.below bel_) hle.D).mono ?_
 rintro e w1 ⟨A0,ac0,A1,ac1,A2,ac2,A3,ac3,A4,ac4,fs,rfl,Hj,h9⟩;have H8:=h9.size;simp at H8
 have gh:Blk w1 w.heap.size 61 #[v0,v1,v2,v3,v4,v5,v6,.int .i64 S.fund]:=Blk.below (((Blk.newAt rfl).alloc _).alloc _) h9 sz_;have gu:Blk w1 (w.heap.size+1) 34 z8_:=Blk.below ((Blk.newAt (by simp)).alloc _) h9 sz_;have nh:Blk w1 (w.heap.size+1+1) 34 z8_:=Blk.below (Blk.newAt (by simp)) h9 sz_;have Gi:OwnD (w.heap.size+1+1+1) w1 (.slice A0 S.D.fn.length ac0) (.slice A1 S.D.fl.length ac1) (.slice A2 S.D.nn.length ac2) (.slice A3 S.D.nl.length ac3) (.slice A4 S.D.ss.length ac4) S.D fs:=by simpa using Hj
 have h8:Below w.heap.size w w1:=bel_
 obtain⟨x_0,x_1,x_2,x_3,x_4,x_5,x_6,x_7,x_f0,x_f1,x_f2,x_f3,x_f4,x_f5,x_f6,x_f7⟩:=gh.b8;obtain⟨s_0,s_1,s_2,s_3,s_4,s_5,s_6,s_7,s_f0,s_f1,s_f2,s_f3,s_f4,s_f5,s_f6,s_f7⟩:=nh.b8
 go_wp2_with fail
 obtain⟨u1,cE⟩:∃u1,u1=(((((w1.setCell ⟨w.heap.size+1+1,0,none⟩ (.slice A0 S.D.fn.length ac0)).setCell ⟨w.heap.size+1+1,1,none⟩ (.slice A1 S.D.fl.length ac1)).setCell ⟨w.heap.size+1+1,2,none⟩ (.slice A2 S.D.nn.length ac2)).setCell ⟨w.heap.size+1+1,3,none⟩ (.slice A3 S.D.nl.length ac3)).setCell ⟨w.heap.size+1+1,4,none⟩ (.slice A4 S.D.ss.length ac4)):=⟨_,rfl⟩;rw[<-cE];have mX:u1.heap.size=w1.heap.size:=by rw[cE];simp
 have ni:Blk u1 w.heap.size 61 #[v0,v1,v2,v3,v4,v5,v6,.int .i64 S.fund]:=cE▸(((((gh).far (p:=⟨w.heap.size+1+1,0,none⟩) (by show _≠w.heap.size+1+1;omega) _).far (p:=⟨w.heap.size+1+1,1,none⟩) (by show _≠w.heap.size+1+1;omega) _).far (p:=⟨w.heap.size+1+1,2,none⟩) (by show _≠w.heap.size+1+1;omega) _).far (p:=⟨w.heap.size+1+1,3,none⟩) (by show _≠w.heap.size+1+1;omega) _).far (p:=⟨w.heap.size+1+1,4,none⟩) (by show _≠w.heap.size+1+1;omega) _;have nj:Blk u1 (w.heap.size+1) 34 z8_:=cE▸(((((gu).far (p:=⟨w.heap.size+1+1,0,none⟩) (by show _≠w.heap.size+1+1;omega) _).far (p:=⟨w.heap.size+1+1,1,none⟩) (by show _≠w.heap.size+1+1;omega) _).far (p:=⟨w.heap.size+1+1,2,none⟩) (by show _≠w.heap.size+1+1;omega) _).far (p:=⟨w.heap.size+1+1,3,none⟩) (by show _≠w.heap.size+1+1;omega) _).far (p:=⟨w.heap.size+1+1,4,none⟩) (by show _≠w.heap.size+1+1;omega) _;have nm:Blk u1 (w.heap.size+1+1) 34 #[.slice A0 S.D.fn.length ac0,.slice A1 S.D.fl.length ac1,.slice A2 S.D.nn.length ac2,.slice A3 S.D.nl.length ac3,.slice A4 S.D.ss.length ac4,.slice none 0 0,.slice none 0 0,.int .i64 0]:=cE▸(((((nh).set_ 0 _).set_ 1 _).set_ 2 _).set_ 3 _).set_ 4 _;have np:OwnD (w.heap.size+1+1+1) u1 (.slice A0 S.D.fn.length ac0) (.slice A1 S.D.fl.length ac1) (.slice A2 S.D.nn.length ac2) (.slice A3 S.D.nl.length ac3) (.slice A4 S.D.ss.length ac4) S.D fs:=cE▸(OwnD.setLow (OwnD.setLow (OwnD.setLow (OwnD.setLow (OwnD.setLow Gi (p:=⟨w.heap.size+1+1,0,none⟩) (aaC _) _) (p:=⟨w.heap.size+1+1,1,none⟩) (aaC _) _) (p:=⟨w.heap.size+1+1,2,none⟩) (aaC _) _) (p:=⟨w.heap.size+1+1,3,none⟩) (aaC _) _) (p:=⟨w.heap.size+1+1,4,none⟩) (aaC _) _)
 have bZ:Below w.heap.size w u1:=cE▸(((((h8).setCell (p:=⟨w.heap.size+1+1,0,none⟩) sz_ _).setCell (p:=⟨w.heap.size+1+1,1,none⟩) sz_ _).setCell (p:=⟨w.heap.size+1+1,2,none⟩) sz_ _).setCell (p:=⟨w.heap.size+1+1,3,none⟩) sz_ _).setCell (p:=⟨w.heap.size+1+1,4,none⟩) sz_ _;refine(z8h _ S.cs _ (Gu.below bZ) hle.cs).mono ?_
 rintro e w2 ⟨q5,rfl,Hm,He⟩;obtain⟨A5,ac5,_,rfl⟩:∃A c,S.cs.length<=S.cs.length/\q5= .slice A S.cs.length c:=by obtain⟨A,c,e,_⟩:=Hm.reads.form;exact⟨A,c,aaa _,e⟩
 have Gd:=He.size;have G7:=ni.below He ni.lt;have GF:=nj.below He nj.lt;have fh:=nm.below He nm.lt;have Cd:=np.kept He;have Hr:=np.lt;have Ha:=bZ.trans (He.mono bZ.size);obtain⟨x_0,x_1,x_2,x_3,x_4,x_5,x_6,x_7,x_f0,x_f1,x_f2,x_f3,x_f4,x_f5,x_f6,x_f7⟩:=G7.b8;obtain⟨s_0,s_1,s_2,s_3,s_4,s_5,s_6,s_7,s_f0,s_f1,s_f2,s_f3,s_f4,s_f5,s_f6,s_f7⟩:=fh.b8
 go_wp2_with fail
 obtain⟨u2,Bv⟩:∃u2,u2=(w2.setCell ⟨w.heap.size+1+1,5,none⟩ (.slice A5 S.cs.length ac5)):=⟨_,rfl⟩;rw[<-Bv];have hy2:u2.heap.size=w2.heap.size:=by rw[Bv];simp
 have CB:Blk u2 w.heap.size 61 #[v0,v1,v2,v3,v4,v5,v6,.int .i64 S.fund]:=Bv▸(G7).far (p:=⟨w.heap.size+1+1,5,none⟩) (by show _≠w.heap.size+1+1;omega) _;have nq:Blk u2 (w.heap.size+1) 34 z8_:=Bv▸(GF).far (p:=⟨w.heap.size+1+1,5,none⟩) (by show _≠w.heap.size+1+1;omega) _;have nr:Blk u2 (w.heap.size+1+1) 34 #[.slice A0 S.D.fn.length ac0,.slice A1 S.D.fl.length ac1,.slice A2 S.D.nn.length ac2,.slice A3 S.D.nl.length ac3,.slice A4 S.D.ss.length ac4,.slice A5 S.cs.length ac5,.slice none 0 0,.int .i64 0]:=Bv▸(fh).set_ 5 _;have Ul:OwnD (w.heap.size+1+1+1) u2 (.slice A0 S.D.fn.length ac0) (.slice A1 S.D.fl.length ac1) (.slice A2 S.D.nn.length ac2) (.slice A3 S.D.nl.length ac3) (.slice A4 S.D.ss.length ac4) S.D fs:=Bv▸(OwnD.setLow Cd (p:=⟨w.heap.size+1+1,5,none⟩) (aaC _) _);have nt:OwnI u1.heap.size u2 (.slice A5 S.cs.length ac5) S.cs:=Bv▸zQ Hm (S:=fun b=>b=w.heap.size+1+1) (Turns.ofGrown (qR w2 ⟨w.heap.size+1+1,5,none⟩ _) (fun k hk=>by cases hk;rfl)) (fun k hk e=>by have:=(World.ownsRow.lt Hm k hk).1;omega);have BU:Below w.heap.size w u2:=Bv▸(Ha).setCell (p:=⟨w.heap.size+1+1,5,none⟩) sz_ _;refine(Xo _ S.ds _ (nw.below BU) hle.ds).mono ?_
 rintro e w3 ⟨q6,rfl,Hq,Hf⟩;obtain⟨A6,ac6,rfl⟩:=zk.form Hq;have gU:=CB.below Hf CB.lt;have GK:=nq.below Hf nq.lt;have FX:=nr.below Hf nr.lt;have GM:=Ul.kept Hf;have cd:=nt.kept Hf;have Ff:=World.ownsRow.lt nt;have gp:=World.ownsRow.lt Hq;have Hc:=BU.trans (Hf.mono BU.size);have n1:w.heap.size+1<w3.heap.size:=GK.lt;have n2:w.heap.size+1+1<w3.heap.size:=FX.lt;have n0:w.heap.size<w3.heap.size:=gU.lt;have HST:Hid (OwnSt (w.heap.size+1+1+1) w3 (.slice A0 S.D.fn.length ac0) (.slice A1 S.D.fl.length ac1) (.slice A2 S.D.nn.length ac2) (.slice A3 S.D.nl.length ac3) (.slice A4 S.D.ss.length ac4) (.slice A5 S.cs.length ac5) (.slice A6 S.ds.length ac6) S fs):=h_ ⟨GM,cd.mono o_,Hq.mono o_,fun k h1 h2=>by have:=(Hr k h1).2;have:=(Ff k h2).1;omega,fun k h1 h2=>by have:=(Hr k h1).2;have:=(gp k h2).1;omega,fun k h1 h2=>by have:=(Ff k h1).2;have:=(gp k h2).1;omega⟩;have cH:=h_ Hc;obtain⟨x_0,x_1,x_2,x_3,x_4,x_5,x_6,x_7,x_f0,x_f1,x_f2,x_f3,x_f4,x_f5,x_f6,x_f7⟩:=gU.b8;obtain⟨r_0,r_1,r_2,r_3,r_4,r_5,r_6,r_7,r_f0,r_f1,r_f2,r_f3,r_f4,r_f5,r_f6,r_f7⟩:=GK.b8;obtain⟨s_0,s_1,s_2,s_3,s_4,s_5,s_6,s_7,s_f0,s_f1,s_f2,s_f3,s_f4,s_f5,s_f6,s_f7⟩:=FX.b8;go_wp2;refine bodyPost_ret (v:= .agg #[.slice A0 S.D.fn.length ac0,.slice A1 S.D.fl.length ac1,.slice A2 S.D.nn.length ac2,.slice A3 S.D.nl.length ac3,.slice A4 S.D.ss.length ac4,.slice A5 S.cs.length ac5,.slice A6 S.ds.length ac6,.int .i64 S.fund]) (by simp[results,Tryz.results28,go_sem,r_0,r_1,r_2,r_3,r_4,r_5,r_6,r_7,s_0,s_1,s_2,s_3,s_4,s_5,s_6,s_7,x_0,x_1,x_2,x_3,x_4,x_5,x_6,x_7,n0,n1,n2]) rfl ?_
 refine⟨A0,ac0,A1,ac1,A2,ac2,A3,ac3,A4,ac4,A5,ac5,A6,ac6,fs,rfl,?_,?_⟩
 ·refine OwnSt.mono (base:=w.heap.size+1+1+1) ?_ o_
  repeat (first|(with_reducible exact HST.out)|(with_reducible refine OwnSt.setLow ?_ ?_ _))
  all_goals exact sz_
 ·have Hc:=cH.out
  exact bel_
theorem vG (v0 v1 v2 v3 v4 v5 v6 u0 u1 u2 u3 u4 u5 u6:Value) (S:St) (w:World) (h:RSt w v0 v1 v2 v3 v4 v5 v6 S) (g:RSt w u0 u1 u2 u3 u4 u5 u6 S):
  CB_ 30 #[.agg #[v0,v1,v2,v3,v4,v5,v6,.int .i64 S.fund],.agg #[u0,u1,u2,u3,u4,u5,u6,.int .i64 S.fund]] w (.bool true):=by
 have a1:=h.dr;have b1:=g.dr
 go_enter Tryz.func30,Tryz.ntmps30
 go_wp2_with fail
 refine(z2y _ _ _ _ _ _ _ _ _ _ S.D _ (a1.below bel_) (b1.below bel_)).mono ?_
 rintro e w1 ⟨rfl,h9⟩;have gh:Blk w1 w.heap.size 34 #[v0,v1,v2,v3,v4,v5,v6,.int .i64 S.fund]:=Blk.below ((Blk.newAt rfl).alloc _) h9 sz_;have U7:Blk w1 (w.heap.size+1) 34 #[u0,u1,u2,u3,u4,u5,u6,.int .i64 S.fund]:=Blk.below (Blk.newAt (by simp)) h9 sz_;have h8:Below w.heap.size w w1:=bel_
 obtain⟨x_0,x_1,x_2,x_3,x_4,x_5,x_6,x_7⟩:=gh.c8;obtain⟨y_0,y_1,y_2,y_3,y_4,y_5,y_6,y_7⟩:=U7.c8
 go_wp2_with fail
 refine(XR _ _ S.cs S.cs _ (h.cs.below h8) (g.cs.below h8)).mono ?_
 rw[aaR (rfl:S.cs=S.cs)];rintro e w2 ⟨rfl,He⟩;have G7:=gh.below He gh.lt;have MN:=U7.below He U7.lt;have Ha:=h8.trans (He.mono h8.size);obtain⟨x_0,x_1,x_2,x_3,x_4,x_5,x_6,x_7⟩:=G7.c8;obtain⟨y_0,y_1,y_2,y_3,y_4,y_5,y_6,y_7⟩:=MN.c8
 go_wp2_with fail
 refine(Vu _ _ S.ds _ (h.ds.below Ha) (g.ds.below Ha)).mono ?_
 rintro e w3 ⟨rfl,Hf⟩;have gU:=G7.below Hf G7.lt;have YI:=MN.below Hf MN.lt;have Hc:=Ha.trans (Hf.mono Ha.size);have cH:=h_ Hc;obtain⟨x_0,x_1,x_2,x_3,x_4,x_5,x_6,x_7⟩:=gU.c8;obtain⟨y_0,y_1,y_2,y_3,y_4,y_5,y_6,y_7⟩:=YI.c8;go_wp2;go_ret
 exact⟨rfl,cH.out⟩
end Go.Proofs.YtnjcpljhmhdhkaaGreat
