/- part 28 -/
import Derived.Test.YtnjcpljhmhdhkaaGreatTPk25
import Derived.Test.YtnjcpljhmhdhkaaGreatTPk27
import Derived.Lib.SliceRun
set_option linter.unusedSimpArgs false
set_option linter.unusedVariables false
namespace Go.Proofs.YtnjcpljhmhdhkaaGreat
open Go.RowKit
theorem yp {a b c d:List Pr}:qN a b c d=true↔a=c/\b=d:=by simp[qN]
theorem k6 {nn nl N L:List Pr} {s:Sp} {r:List Sp}:jA nn nl N L (s::r)=true↔(s.ns=N/\s.ls=L)/\ko N L s.k s.a s.b=true/\jA nn nl (yz N L s.k s.a s.b) (yD N L s.k s.a s.b) r=true:=by
 rw[jA,aaG,aaG,yp]
theorem xM:∀(ss:List Sp) (nn nl N L:List Pr) (s:Sp),jA nn nl N L (ss++[s])=true↔jA s.ns s.ls N L ss=true/\ko s.ns s.ls s.k s.a s.b=true/\nn=yz s.ns s.ls s.k s.a s.b/\nl=yD s.ns s.ls s.k s.a s.b
 | [],nn,nl,N,L,s=>by
  rw[List.nil_append,k6,jA,jA,yp,yp]
  constructor
  ·rintro⟨⟨rfl,rfl⟩,h1,h2,h3⟩;exact⟨⟨rfl,rfl⟩,h1,h2,h3⟩
  ·rintro⟨⟨rfl,rfl⟩,h1,h2,h3⟩;exact⟨⟨rfl,rfl⟩,h1,h2,h3⟩
 |t::ss,nn,nl,N,L,s=>by
  rw[List.cons_append,k6,k6,xM ss]
  constructor
  ·rintro⟨h1,h2,h3,h4⟩;exact⟨⟨h1,h2,h3⟩,h4⟩
  ·rintro⟨⟨h1,h2,h3⟩,h4⟩;exact⟨h1,h2,h3,h4⟩
theorem x9 {D:Dr}:okD D=true↔zC D.fn D.fl/\D.ss.length<=40/\jA D.nn D.nl D.fn D.fl D.ss=true:=by
 unfold okD;rw[aaG,aaG,zu,aa4]
theorem z7a {D:Dr} (h:okD D=true) (k a b:Int):okD (qJ D k a b)=true:=by
 by_cases hc:zS D k a b=true
 ·rw[kP hc]
  unfold zS at hc;rw[aaG,aaG,aa4] at hc;obtain⟨h1,h2,h3⟩:=x9.1 h;rw[x9];refine⟨h1,by simp;omega,?_⟩
  rw[xM];exact⟨h3,hc.2.2,rfl,rfl⟩
 ·rw[yu (by simpa using hc)];exact h
theorem z9x (D:Dr) (k a b:Int):(qJ D k a b).ss.length <=D.ss.length+1:=by
 by_cases hc:zS D k a b=true
 ·rw[kP hc];simp
 ·rw[yu (by simpa using hc)];omega
theorem z6S {D:Dr} (h:okD D=true):okD (qw D)=true:=by
 by_cases h0:D.ss.length=0
 ·rw[(yZ (.inr h0)).1];exact h
 ·obtain⟨k,hk⟩:∃k,D.ss.length=k+1:=⟨D.ss.length -1,by omega⟩
  have BJ:k<D.ss.length:=o_
  rw[(kQ h hk D.ss[k] (aac BJ)).1];obtain⟨h1,h2,h3⟩:=x9.1 h
  have e:D.ss=D.ss.take k++[D.ss[k]]:=by
   rw[<-aax BJ,aaK o_]
  rw[e,xM] at h3;rw[x9];exact⟨h1,by simp;omega,h3.1⟩
theorem z1y (l:List Dp):(l.flatMap Dp.cs).length =l.length*3:=qo Dp.cs 3 (fun _=>rfl) l
theorem z4s (ls:List Dp) (k:Nat):(ls.drop k).flatMap Dp.cs=(ls.flatMap Dp.cs).drop (k*3):=by
 induction ls generalizing k with
 |nil=>simp
 |cons p ls ih=>
  cases k with
  |zero=>simp
  |succ k=>
   rw[List.drop_succ_cons,ih,aam,show(k+1)*3=k*3+3 by omega];simp[Dp.cs]
theorem z8k (ls:List Dp) (k:Nat):(ls.take k).flatMap Dp.cs=(ls.flatMap Dp.cs).take (k*3):=by
 induction ls generalizing k with
 |nil=>simp
 |cons p ls ih=>
  cases k with
  |zero=>simp
  |succ k=>
   rw[List.take_succ_cons,aam,ih,aam,show(k+1)*3=k*3+3 by omega];simp[Dp.cs]
theorem z7D (l:List Dp):∀u∈l.flatMap Dp.cs,u.oneCell'=true:=jF l
theorem z2j {base g cap:Nat} {w:World} {ls:List Dp} {k:Nat} (h:zx base w (.slice (some ⟨g,0,none⟩) ls.length cap) ls) (hk:k<ls.length):
  zx base (w.setCells g (k*3) ((ls.drop (k+1)).flatMap Dp.cs)) (.slice (some ⟨g,0,none⟩) (ls.length -1) cap) (ls.take k++ls.drop (k+1)):=by
 have Hm:(ls.take k++ls.drop (k+1)).length =ls.length -1:=by simp;omega
 have C5:((ls.drop (k+1)).flatMap Dp.cs).length =(ls.length -(k+1))*3:=by rw[z1y];simp
 refine⟨z1y _,?_⟩
 rcases h.2 with ⟨e,_⟩|⟨g',cap',cur,e,hb,hh,bO,mh,gI,Cx⟩
 ·cases e
 ·cases e
  have cJ:ls.length*3<=cur.size:=by rw[gI];exact Nat.mul_le_mul_right 3 bO
  have Hw:=xg g 48 ((ls.drop (k+1)).flatMap Dp.cs) (k*3) w cur hh (by rw[C5];omega);refine .inr ⟨g,cap,_,by rw[Hm],hb,Hw,by rw[Hm];omega,mh,?_,?_⟩
  ·simp only[List.size_toArray,aaW,abm,List.length_drop,C5,Array.length_toList]
   omega
  ·rw[Hm,aaX,z4s,z8k,<-Cx]
   have hc:cur.toList.length=cur.size:=Array.length_toList;have ry:(List.take (k*3) cur.toList).length =k*3:=by rw[abm,hc];omega
   have e3:(List.drop ((k+1)*3) (List.take (ls.length*3) cur.toList)).length =(ls.length -1)*3 -k*3:=by rw[List.length_drop,abm,hc];omega
   show List.take ((ls.length -1)*3) (List.take (k*3) cur.toList++_++_)=_
   rw[aay,List.take_append,ry,aaK (by rw[ry];omega),List.take_left' e3,List.take_take,Nat.min_eq_left o_]
theorem z6o {base g n cap:Nat} {w:World} {ls:List Dp} {vs:List Value} (h:zx base w (.slice (some ⟨g,0,none⟩) n cap) ls) (hn:n=ls.length) (hv:n*3+vs.length<=cap*3):
  zx base (w.setCells g (n*3) vs) (.slice (some ⟨g,0,none⟩) n cap) ls:=by
 subst hn;refine⟨h.1,?_⟩
 rcases h.2 with ⟨e,_⟩|⟨g',cap',cur,e,hb,hh,bO,mh,gI,Cx⟩
 ·cases e
 ·cases e
  have Hw:=xg g 48 vs (ls.length*3) w cur hh (by rw[gI];exact hv);refine .inr ⟨g,cap,_,rfl,hb,Hw,bO,mh,?_,?_⟩
  ·simp only[List.size_toArray,aaW,abm,List.length_drop,Array.length_toList]
   omega
  ·have cJ:ls.length*3<=cur.size:=by rw[gI];exact Nat.mul_le_mul_right 3 bO
   have hc:cur.toList.length=cur.size:=Array.length_toList;have ry:(List.take (ls.length*3) cur.toList).length =ls.length*3:=by rw[abm,hc];omega
   show List.take (ls.length*3) (List.take (ls.length*3) cur.toList++_++_)=_
   rw[aay,List.take_left' ry];exact Cx
theorem Jo {P:Program} {w:World} {t ty:TypeId} {i:TypeInfo} {base g cap c2:Nat} {ls:List Dp} {k:Nat} (ht:P.underlying t=some (.slice 48)) (hi:P.info? 48=some i) (Hy:i.size=3)
  (h:zx base w (.slice (some ⟨g,0,none⟩) ls.length cap) ls) (hk:k<ls.length):
  (Builtin.append_ #[t,t] ty #[.slice (some ⟨g,0,none⟩) k cap,.slice (if cap=k+1 then some ⟨g,0,none⟩ else some ⟨g,(k+1)*3,none⟩) (ls.length -(k+1)) c2]).run P w=
   .ok (.slice (some ⟨g,0,none⟩) (ls.length -1) cap) (w.setCells g (k*3) ((ls.drop (k+1)).flatMap Dp.cs)):=by
 have bY:ls.length<=cap:=by
  rcases h.2 with ⟨e,_⟩|⟨g',cap',cur,e,hb,hh,bO,mh,gI,Cx⟩
  ·cases e
  ·cases e;exact bO
 have C5:((ls.drop (k+1)).flatMap Dp.cs).length =(ls.length -(k+1))*3:=by rw[z1y,List.length_drop]
 have fK:=z1y ls;have ho:w.ownsRow base 48 3 (.slice (some ⟨g,0,none⟩) ls.length cap) ls.length (ls.flatMap Dp.cs):=h;have hcell:∀j,j<ls.length*3->w.cell? ⟨g,j,none⟩=(ls.flatMap Dp.cs)[j]? :=fun j hj=>ho.cellAt j o_
 have uo:Src P i.size t (.slice (if cap=k+1 then some ⟨g,0,none⟩ else some ⟨g,(k+1)*3,none⟩) (ls.length -(k+1)) c2) (ls.length -(k+1)) ((ls.drop (k+1)).flatMap Dp.cs) w:=by
  by_cases fM:cap=k+1
  ·rw[aao fM]
   have e0:ls.length -(k+1)=0:=o_
   refine Src.ofSlice w ht _ _ _ _ (by rw[Hy];exact C5) ?_ (z7D _)
   intro j u hu;have hj:=(List.getElem?_eq_some_iff.1 hu).1;rw[C5] at hj;omega
  ·rw[aaq fM]
   refine Src.ofSlice w ht _ _ _ _ (by rw[Hy];exact C5) ?_ (z7D _)
   intro j u hu;have hj:=(List.getElem?_eq_some_iff.1 hu).1;rw[C5] at hj;rw[kL,hcell _ o_,<-hu,z4s,List.getElem?_drop]
 have hr:=run_append_room_src (P:=P) w t t ty 48 i ht hi g 0 k cap _ (ls.length -(k+1)) ((ls.drop (k+1)).flatMap Dp.cs) uo o_
  (fun j hj=>by rw[C5] at hj;rw[Hy,aaF,hcell _ o_,aac o_];rfl)
  (fun j hj=>ho.frozenAt _)
 rw[Hy,aaF,show k+(ls.length -(k+1))=ls.length -1 by omega] at hr;exact hr
theorem ZL {P:Program} {w:World} {ops:Array Oper} {rest:List Oper} {o:Oper} {a:Act} {Q:Exit->Act->World->Prop} (Fu:o.guard=none) (s x:Operand) (t:TypeId)
  (ho:o.op= .call { callee:= .builtin .append,args:= #[s,x],argTypes:= #[t,t] })
  (base:Nat) (i:TypeInfo) (ht:P.underlying t=some (.slice 48)) (hi:P.info? 48=some i) (Hy:i.size=3) (g cap c2:Nat) (ls:List Dp) (k:Nat)
  (hs:a.eval s= .slice (some ⟨g,0,none⟩) k cap) (hx:a.eval x= .slice (if cap=k+1 then some ⟨g,0,none⟩ else some ⟨g,(k+1)*3,none⟩) (ls.length -(k+1)) c2)
  (hown:zx base w (.slice (some ⟨g,0,none⟩) ls.length cap) ls) (hk:k<ls.length)
  (h:∀w',zx base w' (.slice (some ⟨g,0,none⟩) (ls.length -1) cap) (ls.take k++ls.drop (k+1))->w.grownBy w' (some g)->wpList P ops Q rest (a.put o.dst (.slice (some ⟨g,0,none⟩) (ls.length -1) cap)) w'):
  wpList P ops Q (o::rest) a w:=
 wpList_plain Fu fun K hK=>by
  have fj:=Jo (ty:=o.type) (c2:=c2) ht hi Hy hown hk;unfold Oper.wp execOp;simp only[ho,resolve,invoke,builtin,Sem.run_bind,Sem.run_pure,aaY,List.map_toArray,aaS,aaT,hs,hx,fj]
  exact hK _ _ (h _ (z2j hown hk) ⟨World.os_setCells _ _ _ _,yX _ _ _ _,World.output_setCells _ _ _ _,by rw[yY];exact aaa _,fun i hi Hv=>World.heap_setCells_other _ _ _ _ hi (fun e=>Hv (by rw[e]))⟩)
theorem Xn {P:Program} (w:World) (t ty:TypeId) (ht:P.underlying t=some (.slice 48)) (hv:∀w,(zeroValue 48).run P w= .ok (.agg #[.int .i64 0,.int .i64 0,.int .i64 0]) w) (b o c:Nat)
  (hc:∀j,j<3->(w.cell? ⟨b,o+j,none⟩).isSome =true) (hf:∀j,j<3->w.frozen? ⟨b,o+j,none⟩=false):
  (Builtin.clear_ #[t] ty #[.slice (some ⟨b,o,none⟩) 1 c]).run P w= .ok (.tuple #[]) (w.setCells b o [.int .i64 0,.int .i64 0,.int .i64 0]):=by
 have hzc:(Builtin.zeroCells (Value.agg #[.int .i64 0,.int .i64 0,.int .i64 0]).cells 1).toList =[.int .i64 0,.int .i64 0,.int .i64 0]:=by
  simp[Builtin.zeroCells,Value.cells,abe]
 have cd:=run_storeCells_cells (P:=P) b o [.int .i64 0,.int .i64 0,.int .i64 0] 0 w (by simpa using hc) (by simpa using hf) (by intro v hv';simp at hv';subst hv';rfl);simp only[aaf] at cd
 simp[Builtin.clear_,run_underlying ht,hv,hzc,cd]
theorem z1J {k a b:Int} (h:actB k a b=true):(1<=k/\k<=9)/\(0<=a/\a<=40)/\0<=b/\b<=50:=by
 unfold actB at h
 split at h
 ·rename_i hk
  rw[aaH,aaN,aaN] at hk;rw[aaG,zc,zc] at h;omega
 ·split at h
  ·rename_i hk
   rw[aaN] at hk;rw[aaG,zc,zc] at h;omega
  ·split at h
   ·rename_i hk
    simp only[aaH,aaN] at hk
    rw[aaG,zc,aaN] at h;omega
   ·split at h
    ·rename_i hk
     simp only[aaH,aaN] at hk
     rw[aaG,aaN,aaN] at h;omega
    ·cases h
theorem z5k (k a b:Int) (x:Bool) (w:World) (h:actB k a b=x):
  CB_ 67 #[.agg #[.int .i64 k,.int .i64 a,.int .i64 b]] w (.bool x):=by
 subst h;exact z3E k a b w
theorem z5m (k a b:Int) (x:Bool) (w:World) (h:actB k a b=x):
  CB_ 71 #[.agg #[.int .i64 k,.int .i64 a,.int .i64 b]] w (.bool x):=by
 subst h;exact z4h k a b w
section
variable {w wr wr':World} {v0 v1 v2 v3 v4 v5 v6 a b c d e f g:Value} {m:Int} {Z:Nat} {S:St} {fs:List SF}
theorem OutSS.newCs (h:OutSS w v0 v1 v2 v3 v4 v5 v6 m Z a b c d e f g S fs wr) (hb:Below wr.heap.size wr wr') {v:Value} {l:List Int} (ho:OwnI wr.heap.size wr' v l):
  OutSS w v0 v1 v2 v3 v4 v5 v6 m Z a b c d e v g ⟨S.D,l,S.ds,S.fund⟩ fs (wr'.setCell ⟨Z,5,none⟩ v):=by
 have h1:=h.below hb;have Cw:∀k,v.ownBlock=some k->wr.heap.size<=k:=fun k hk=>(OwnI.lt ho k hk).1
 have Vn:∀k,vp a b c d e f g fs k->k<wr.heap.size:=fun k hk=>(h.own.lt k hk).2
 have Gb:=h.Z_.lt
 have NB:¬vp a b c d e v g fs Z:=by
  rintro(hk|hk|hk)
  ·exact h.far (.inl hk)
  ·have:=Cw _ hk;omega
  ·exact h.far (.inr (.inr hk))
 have hO:OwnSt (w.heap.size+1+1) wr' a b c d e v g ⟨S.D,l,S.ds,S.fund⟩ fs:=
  ⟨h1.own.dr,OwnI.mono ho (by have:=h.lt;omega),h1.own.ds,fun k hk gU=>by have:=Cw k gU;have:=Vn k (.inl hk);omega,h1.own.d_d,fun k hk gU=>by have:=Cw k hk;have:=Vn k (.inr (.inr gU));omega⟩
 have Hf:=h.lt;exact⟨hO.setFar (p:=⟨Z,5,none⟩) NB v,h1.X.far (p:=⟨Z,5,none⟩) (show w.heap.size≠Z by omega) v,h1.R.far (p:=⟨Z,5,none⟩) (show w.heap.size+1≠Z by omega) v,h1.Z_.set_ 5 v,h1.lt,NB,h1.blw.setCell (p:=⟨Z,5,none⟩) (show w.heap.size<=Z by omega) v⟩
end
end Go.Proofs.YtnjcpljhmhdhkaaGreat
