/- part 24 -/
import Derived.Test.YtnjcpljhmhdhkaaGreatEPk21
import Derived.Test.YtnjcpljhmhdhkaaGreatEPk22
import Derived.Test.YtnjcpljhmhdhkaaGreatEPk23
import Derived.Lib.SliceRun
set_option linter.unusedSimpArgs false
set_option linter.unusedVariables false
set_option maxRecDepth 100000
set_option maxHeartbeats 16000000
namespace Go.Proofs.YtnjcpljhmhdhkaaGreat
open Go.RowKit
theorem OwnSt.setFar {base:Nat} {w:World} {a b c d e f g:Value} {S:St} {fs:List SF} (h:OwnSt base w a b c d e f g S fs) {p:Addr} (hp:¬jY a b c d e f g fs p.block) (u:Value):OwnSt base (w.setCell p u) a b c d e f g S fs:=
 h.turned (T:=fun k=>k=p.block) (Turns.ofGrown (qS w p u) (fun k hk=>by cases hk;rfl)) (fun k hk e=>hp (e▸hk))
structure OutSS (w:World) (v0 v1 v2 v3 v4 v5 v6:Value) (m:Int) (Z:Nat) (a b c d e f g:Value) (S:St) (fs:List SF) (wr:World):Prop where
 own:OwnSt (w.heap.size+1+1) wr a b c d e f g S fs
 X:Blk wr w.heap.size 34 #[v0,v1,v2,v3,v4,v5,v6,.int .i64 m]
 R:Blk wr (w.heap.size+1) 34 z8_
 Z_:Blk wr Z 34 #[a,b,c,d,e,f,g,.int .i64 S.fund]
 lt:w.heap.size+1<Z
 far:¬jY a b c d e f g fs Z
 blw:Below w.heap.size w wr
section
variable {w wr wr':World} {v0 v1 v2 v3 v4 v5 v6 a b c d e f g:Value} {m:Int} {Z:Nat} {S:St} {fs:List SF}
theorem OutSS.below (h:OutSS w v0 v1 v2 v3 v4 v5 v6 m Z a b c d e f g S fs wr) (hb:Below wr.heap.size wr wr'):OutSS w v0 v1 v2 v3 v4 v5 v6 m Z a b c d e f g S fs wr':=
 ⟨h.own.kept hb,h.X.below hb h.X.lt,h.R.below hb h.R.lt,h.Z_.below hb h.Z_.lt,h.lt,h.far,h.blw.trans (hb.mono h.blw.size)⟩
theorem OutSS.start {base:Nat} (ho:OwnSt base wr a b c d e f g S fs) (Hu:w.heap.size+1+1<=base) (hX:Blk wr w.heap.size 34 #[v0,v1,v2,v3,v4,v5,v6,.int .i64 m]) (hR:Blk wr (w.heap.size+1) 34 z8_) (hb:Below w.heap.size w wr):
  OutSS w v0 v1 v2 v3 v4 v5 v6 m wr.heap.size a b c d e f g S fs (wr.alloc (.cells #[a,b,c,d,e,f,g,.int .i64 S.fund] 34)):=
 ⟨(ho.mono Hu).alloc _,hX.alloc _,hR.alloc _,Blk.newAt rfl,hR.lt,fun hk=>by have:=(ho.lt _ hk).2;omega,hb.alloc hb.size _⟩
theorem OutSS.fin (h:OutSS w v0 v1 v2 v3 v4 v5 v6 m Z a b c d e f g S fs wr) (u0 u1 u2 u3 u4 u5 u6 u7:Value):
  OwnSt w.heap.size ((((((((wr.setCell ⟨w.heap.size+1,0,none⟩ u0).setCell ⟨w.heap.size+1,1,none⟩ u1).setCell ⟨w.heap.size+1,2,none⟩ u2).setCell ⟨w.heap.size+1,3,none⟩ u3).setCell ⟨w.heap.size+1,4,none⟩ u4).setCell ⟨w.heap.size+1,5,none⟩ u5).setCell ⟨w.heap.size+1,6,none⟩ u6).setCell ⟨w.heap.size+1,7,none⟩ u7) a b c d e f g S fs/\
  Below w.heap.size w ((((((((wr.setCell ⟨w.heap.size+1,0,none⟩ u0).setCell ⟨w.heap.size+1,1,none⟩ u1).setCell ⟨w.heap.size+1,2,none⟩ u2).setCell ⟨w.heap.size+1,3,none⟩ u3).setCell ⟨w.heap.size+1,4,none⟩ u4).setCell ⟨w.heap.size+1,5,none⟩ u5).setCell ⟨w.heap.size+1,6,none⟩ u6).setCell ⟨w.heap.size+1,7,none⟩ u7):=by
 have hR:¬jY a b c d e f g fs (w.heap.size+1):=fun hk=>by have:=(h.own.lt _ hk).1;omega
 have step:∀(W:World) (j:Nat) (u:Value),OwnSt w.heap.size W a b c d e f g S fs->OwnSt w.heap.size (W.setCell ⟨w.heap.size+1,j,none⟩ u) a b c d e f g S fs:=fun W j u hW=>hW.setFar (p:=⟨w.heap.size+1,j,none⟩) hR u
 have hs:w.heap.size<=w.heap.size+1:=Nat.le_succ _
 exact⟨step _ _ _ (step _ _ _ (step _ _ _ (step _ _ _ (step _ _ _ (step _ _ _ (step _ _ _ (step _ _ _ (h.own.mono o_)))))))),
  (((((((h.blw.setCell (p:=⟨w.heap.size+1,0,none⟩) hs u0).setCell (p:=⟨w.heap.size+1,1,none⟩) hs u1).setCell (p:=⟨w.heap.size+1,2,none⟩) hs u2).setCell (p:=⟨w.heap.size+1,3,none⟩) hs u3).setCell (p:=⟨w.heap.size+1,4,none⟩) hs u4).setCell (p:=⟨w.heap.size+1,5,none⟩) hs u5).setCell (p:=⟨w.heap.size+1,6,none⟩) hs u6).setCell (p:=⟨w.heap.size+1,7,none⟩) hs u7⟩
end
theorem z6c {base:Nat} {w wr:World} {a b c d e f g:Value} {S:St} {fs:List SF} (h:OwnSt base wr a b c d e f g S fs) (Hu:w.heap.size+1+1<=base) (hb:Below w.heap.size w wr) (u0 u1 u2 u3 u4 u5 u6 u7:Value):
  OwnSt w.heap.size ((((((((wr.setCell ⟨w.heap.size+1,0,none⟩ u0).setCell ⟨w.heap.size+1,1,none⟩ u1).setCell ⟨w.heap.size+1,2,none⟩ u2).setCell ⟨w.heap.size+1,3,none⟩ u3).setCell ⟨w.heap.size+1,4,none⟩ u4).setCell ⟨w.heap.size+1,5,none⟩ u5).setCell ⟨w.heap.size+1,6,none⟩ u6).setCell ⟨w.heap.size+1,7,none⟩ u7) a b c d e f g S fs/\
  Below w.heap.size w ((((((((wr.setCell ⟨w.heap.size+1,0,none⟩ u0).setCell ⟨w.heap.size+1,1,none⟩ u1).setCell ⟨w.heap.size+1,2,none⟩ u2).setCell ⟨w.heap.size+1,3,none⟩ u3).setCell ⟨w.heap.size+1,4,none⟩ u4).setCell ⟨w.heap.size+1,5,none⟩ u5).setCell ⟨w.heap.size+1,6,none⟩ u6).setCell ⟨w.heap.size+1,7,none⟩ u7):=by
 have hR:¬jY a b c d e f g fs (w.heap.size+1):=fun hk=>by have:=(h.lt _ hk).1;omega
 have step:∀(W:World) (j:Nat) (u:Value),OwnSt w.heap.size W a b c d e f g S fs->OwnSt w.heap.size (W.setCell ⟨w.heap.size+1,j,none⟩ u) a b c d e f g S fs:=fun W j u hW=>hW.setFar (p:=⟨w.heap.size+1,j,none⟩) hR u
 have hs:w.heap.size<=w.heap.size+1:=Nat.le_succ _
 exact⟨step _ _ _ (step _ _ _ (step _ _ _ (step _ _ _ (step _ _ _ (step _ _ _ (step _ _ _ (step _ _ _ (h.mono o_)))))))),
  (((((((hb.setCell (p:=⟨w.heap.size+1,0,none⟩) hs u0).setCell (p:=⟨w.heap.size+1,1,none⟩) hs u1).setCell (p:=⟨w.heap.size+1,2,none⟩) hs u2).setCell (p:=⟨w.heap.size+1,3,none⟩) hs u3).setCell (p:=⟨w.heap.size+1,4,none⟩) hs u4).setCell (p:=⟨w.heap.size+1,5,none⟩) hs u5).setCell (p:=⟨w.heap.size+1,6,none⟩) hs u6).setCell (p:=⟨w.heap.size+1,7,none⟩) hs u7⟩
theorem z0r (l:List Dp):(l.flatMap Dp.cs).length =l.length*3:=qm Dp.cs 3 (fun _=>rfl) l
theorem z45 (ls:List Dp) (k:Nat):(ls.drop k).flatMap Dp.cs=(ls.flatMap Dp.cs).drop (k*3):=by
 induction ls generalizing k with
 |nil=>simp
 |cons p ls ih=>
  cases k with
  |zero=>simp
  |succ k=>
   rw[List.drop_succ_cons,ih,aam,show(k+1)*3=k*3+3 by omega];simp[Dp.cs]
theorem z7v (ls:List Dp) (k:Nat):(ls.take k).flatMap Dp.cs=(ls.flatMap Dp.cs).take (k*3):=by
 induction ls generalizing k with
 |nil=>simp
 |cons p ls ih=>
  cases k with
  |zero=>simp
  |succ k=>
   rw[List.take_succ_cons,aam,ih,aam,show(k+1)*3=k*3+3 by omega];simp[Dp.cs]
theorem z5H (l:List Dp):∀u∈l.flatMap Dp.cs,u.oneCell'=true:=z9H l
theorem z2p {base g cap:Nat} {w:World} {ls:List Dp} {k:Nat} (h:zK base w (.slice (some ⟨g,0,none⟩) ls.length cap) ls) (hk:k<ls.length):
  zK base (w.setCells g (k*3) ((ls.drop (k+1)).flatMap Dp.cs)) (.slice (some ⟨g,0,none⟩) (ls.length -1) cap) (ls.take k++ls.drop (k+1)):=by
 have Hj:(ls.take k++ls.drop (k+1)).length =ls.length -1:=by simp;omega
 have CI:((ls.drop (k+1)).flatMap Dp.cs).length =(ls.length -(k+1))*3:=by rw[z0r];simp
 refine⟨z0r _,?_⟩
 rcases h.2 with ⟨e,_⟩|⟨g',cap',cur,e,hb,hh,CC,Bh,gx,co⟩
 ·cases e
 ·cases e
  have FN:ls.length*3<=cur.size:=by rw[gx];exact Nat.mul_le_mul_right 3 CC
  have Hq:=ky g 48 ((ls.drop (k+1)).flatMap Dp.cs) (k*3) w cur hh (by rw[CI];omega);refine .inr ⟨g,cap,_,by rw[Hj],hb,Hq,by rw[Hj];omega,Bh,?_,?_⟩
  ·simp only[List.size_toArray,aaW,abm,List.length_drop,CI,Array.length_toList]
   omega
  ·rw[Hj,aaX,z45,z7v,<-co]
   have hc:cur.toList.length=cur.size:=Array.length_toList;have Nk:(List.take (k*3) cur.toList).length =k*3:=by rw[abm,hc];omega
   have e3:(List.drop ((k+1)*3) (List.take (ls.length*3) cur.toList)).length =(ls.length -1)*3 -k*3:=by rw[List.length_drop,abm,hc];omega
   show List.take ((ls.length -1)*3) (List.take (k*3) cur.toList++_++_)=_
   rw[aay,List.take_append,Nk,aaK (by rw[Nk];omega),List.take_left' e3,List.take_take,Nat.min_eq_left o_]
theorem z4J {base g n cap:Nat} {w:World} {ls:List Dp} {vs:List Value} (h:zK base w (.slice (some ⟨g,0,none⟩) n cap) ls) (hn:n=ls.length) (hv:n*3+vs.length<=cap*3):
  zK base (w.setCells g (n*3) vs) (.slice (some ⟨g,0,none⟩) n cap) ls:=by
 subst hn;refine⟨h.1,?_⟩
 rcases h.2 with ⟨e,_⟩|⟨g',cap',cur,e,hb,hh,CC,Bh,gx,co⟩
 ·cases e
 ·cases e
  have Hq:=ky g 48 vs (ls.length*3) w cur hh (by rw[gx];exact hv);refine .inr ⟨g,cap,_,rfl,hb,Hq,CC,Bh,?_,?_⟩
  ·simp only[List.size_toArray,aaW,abm,List.length_drop,Array.length_toList]
   omega
  ·have FN:ls.length*3<=cur.size:=by rw[gx];exact Nat.mul_le_mul_right 3 CC
   have hc:cur.toList.length=cur.size:=Array.length_toList;have Nk:(List.take (ls.length*3) cur.toList).length =ls.length*3:=by rw[abm,hc];omega
   show List.take (ls.length*3) (List.take (ls.length*3) cur.toList++_++_)=_
   rw[aay,List.take_left' Nk];exact co
theorem ZY {P:Program} {w:World} {t ty:TypeId} {i:TypeInfo} {base g cap c2:Nat} {ls:List Dp} {k:Nat} (ht:P.underlying t=some (.slice 48)) (hi:P.info? 48=some i) (Hs:i.size=3)
  (h:zK base w (.slice (some ⟨g,0,none⟩) ls.length cap) ls) (hk:k<ls.length):
  (Builtin.append_ #[t,t] ty #[.slice (some ⟨g,0,none⟩) k cap,.slice (if cap=k+1 then some ⟨g,0,none⟩ else some ⟨g,(k+1)*3,none⟩) (ls.length -(k+1)) c2]).run P w=
   .ok (.slice (some ⟨g,0,none⟩) (ls.length -1) cap) (w.setCells g (k*3) ((ls.drop (k+1)).flatMap Dp.cs)):=by
 have BI:ls.length<=cap:=by
  rcases h.2 with ⟨e,_⟩|⟨g',cap',cur,e,hb,hh,CC,Bh,gx,co⟩
  ·cases e
  ·cases e;exact CC
 have CI:((ls.drop (k+1)).flatMap Dp.cs).length =(ls.length -(k+1))*3:=by rw[z0r,List.length_drop]
 have fc:=z0r ls;have ho:w.ownsRow base 48 3 (.slice (some ⟨g,0,none⟩) ls.length cap) ls.length (ls.flatMap Dp.cs):=h;have hcell:∀j,j<ls.length*3->w.cell? ⟨g,j,none⟩=(ls.flatMap Dp.cs)[j]? :=fun j hj=>ho.cellAt j o_
 have Rb:Src P i.size t (.slice (if cap=k+1 then some ⟨g,0,none⟩ else some ⟨g,(k+1)*3,none⟩) (ls.length -(k+1)) c2) (ls.length -(k+1)) ((ls.drop (k+1)).flatMap Dp.cs) w:=by
  by_cases G8:cap=k+1
  ·rw[aao G8]
   have e0:ls.length -(k+1)=0:=o_
   refine Src.ofSlice w ht _ _ _ _ (by rw[Hs];exact CI) ?_ (z5H _)
   intro j u hu;have hj:=(List.getElem?_eq_some_iff.1 hu).1;rw[CI] at hj;omega
  ·rw[aaq G8]
   refine Src.ofSlice w ht _ _ _ _ (by rw[Hs];exact CI) ?_ (z5H _)
   intro j u hu;have hj:=(List.getElem?_eq_some_iff.1 hu).1;rw[CI] at hj;rw[ki,hcell _ o_,<-hu,z45,List.getElem?_drop]
 have hr:=run_append_room_src (P:=P) w t t ty 48 i ht hi g 0 k cap _ (ls.length -(k+1)) ((ls.drop (k+1)).flatMap Dp.cs) Rb o_
  (fun j hj=>by rw[CI] at hj;rw[Hs,aaF,hcell _ o_,aac o_];rfl)
  (fun j hj=>ho.frozenAt _)
 rw[Hs,aaF,show k+(ls.length -(k+1))=ls.length -1 by omega] at hr;exact hr
theorem Zh {P:Program} {w:World} {ops:Array Oper} {rest:List Oper} {o:Oper} {a:Act} {Q:Exit->Act->World->Prop} (fY:o.guard=none) (s x:Operand) (t:TypeId)
  (ho:o.op= .call { callee:= .builtin .append,args:= #[s,x],argTypes:= #[t,t] })
  (base:Nat) (i:TypeInfo) (ht:P.underlying t=some (.slice 48)) (hi:P.info? 48=some i) (Hs:i.size=3) (g cap c2:Nat) (ls:List Dp) (k:Nat)
  (hs:a.eval s= .slice (some ⟨g,0,none⟩) k cap) (hx:a.eval x= .slice (if cap=k+1 then some ⟨g,0,none⟩ else some ⟨g,(k+1)*3,none⟩) (ls.length -(k+1)) c2)
  (hown:zK base w (.slice (some ⟨g,0,none⟩) ls.length cap) ls) (hk:k<ls.length)
  (h:∀w',zK base w' (.slice (some ⟨g,0,none⟩) (ls.length -1) cap) (ls.take k++ls.drop (k+1))->w.grownBy w' (some g)->wpList P ops Q rest (a.put o.dst (.slice (some ⟨g,0,none⟩) (ls.length -1) cap)) w'):
  wpList P ops Q (o::rest) a w:=
 wpList_plain fY fun K hK=>by
  have GC:=ZY (ty:=o.type) (c2:=c2) ht hi Hs hown hk;unfold Oper.wp execOp;simp only[ho,resolve,invoke,builtin,Sem.run_bind,Sem.run_pure,aaY,List.map_toArray,aaS,aaT,hs,hx,GC]
  exact hK _ _ (h _ (z2p hown hk) ⟨World.os_setCells _ _ _ _,yK _ _ _ _,World.output_setCells _ _ _ _,by rw[yJ];exact aaa _,fun i hi gd=>World.heap_setCells_other _ _ _ _ hi (fun e=>gd (by rw[e]))⟩)
theorem VT {P:Program} (w:World) (t ty:TypeId) (ht:P.underlying t=some (.slice 48)) (hv:∀w,(zeroValue 48).run P w= .ok (.agg #[.int .i64 0,.int .i64 0,.int .i64 0]) w) (b o c:Nat)
  (hc:∀j,j<3->(w.cell? ⟨b,o+j,none⟩).isSome =true) (hf:∀j,j<3->w.frozen? ⟨b,o+j,none⟩=false):
  (Builtin.clear_ #[t] ty #[.slice (some ⟨b,o,none⟩) 1 c]).run P w= .ok (.tuple #[]) (w.setCells b o [.int .i64 0,.int .i64 0,.int .i64 0]):=by
 have hzc:(Builtin.zeroCells (Value.agg #[.int .i64 0,.int .i64 0,.int .i64 0]).cells 1).toList =[.int .i64 0,.int .i64 0,.int .i64 0]:=by
  simp[Builtin.zeroCells,Value.cells,abe]
 have F8:=run_storeCells_cells (P:=P) b o [.int .i64 0,.int .i64 0,.int .i64 0] 0 w (by simpa using hc) (by simpa using hf) (by intro v hv';simp at hv';subst hv';rfl);simp only[aaf] at F8
 simp[Builtin.clear_,run_underlying ht,hv,hzc,F8]
theorem z5y {s:List Int} {F k:Nat} (h:s.getD (2*k) 0=s.getD (2*k+1) 0):besK s F (k+1)=besK s F k:=by simp only[besK];rw[aao h]
theorem z4U {s:List Int} {F k a b:Nat} (ha:s.getD (2*k) 0=(a:Int)) (hb:s.getD (2*k+1) 0=(b:Int)) (h:a≠b):besK s F (k+1)=setT (setT (besK s F k) a b) b a:=by
 simp only[besK];rw[aaq o_,ha,hb,aa5,aa5]
theorem z69:(Tryz.prog.info? 182).map (fun i=>(i.zero,i.size,i.bytes))=some (some (.slice none 0 0),1,24):=by kernel_rfl
theorem QJ {w:World} {ops:Array Oper} {rest:List Oper} {o:Oper} {a:Act} {Q:Exit->Act->World->Prop} (fY:o.guard=none) (s x:Operand)
  (ho:o.op= .call { callee:= .builtin .append,args:= #[s,x],argTypes:= #[169,169] })
  (base:Nat) (v:Value) (F g:Nat) (gs:List Nat) (T:List (List Bool)) (r:List Bool) (hs:a.eval s=v) (g1:Nat) (hx:a.eval x= .slice (some ⟨g1,0,none⟩) 1 1) (hg:w.cell? ⟨g1,0,none⟩=some (rowV F g))
  (hown:OwnTab base w v F gs T) (hr:OwnE 4 Value.bool base w (rowV F g) r) (hgn:∀k,k<T.length->gs.getD k 0≠g) (Hj:T.length<=1048576) (Hu:base<=w.heap.size)
  (h:∀v' w',OwnTab base w' v' F (gs++[g]) (T++[r])->w.grownBy w' v.ownBlock->wpList Tryz.prog ops Q rest (a.put o.dst v') w'):wpList Tryz.prog ops Q (o::rest) a w:=by
 obtain⟨i,hi,hz,Hs,GN⟩:=info_parts z69;have hl:=hown.len
 exact wpList_append_own w fY s x 169 ho base 182 i (.slice none 0 0) 1 24 Tryz.underlying169 hi hz Hs GN rfl (by decide) v gs.length (gs.map (rowV F)) hs hown.out ⟨g1,0,none⟩ 1 1 [rowV F g] hx rfl
  (fun j y hj=>by
   match j,hj with
   |0,hj=>cases hj;exact hg
   |j+1,hj=>simp at hj)
  (by
   intro y hy;simp at hy
   subst hy;rfl) (by unfold maxLen;omega) o_ Hu fun v' w' e1 e2 _=>h v' w' (hown.snoc hr hgn e2 (by rw[<-hl];exact e1)) e2
def z8N (F:Nat) (T:List (List Bool)) (w:World) (e:Ending) (w':World):Prop:=∃v gs,e= .returned v/\OwnTab w.heap.size w' v F gs T/\Below w.heap.size w w'
theorem OwnTab.mono {base base':Nat} {w:World} {v:Value} {F:Nat} {gs:List Nat} {T:List (List Bool)} (h:OwnTab base w v F gs T) (hb:base'<=base):OwnTab base' w v F gs T:=
 ⟨World.ownsRow.mono h.out hb,h.len,h.nd,fun k hk=>World.ownsRow.mono (h.row k hk) hb⟩
theorem z5V {α:Type} (k:Nat) (x:α):List.replicate k x++[x]=List.replicate (k+1) x:=by rw[List.replicate_succ']
theorem z1C (vn vl:Value) (ns ls:List Pr) (w:World) (hn:RP w vn ns) (hl:RP w vl ls) (hw:ze ns ls=true):
  Calls Tryz.prog 179 #[.agg #[vn,vl]] w (z8N (z9 ns ls).length (besW ns ls) w):=by
 obtain⟨Al,cl,rfl,Hy,Gz,_⟩:=hl.formI;unfold maxLen at Gz;have Hg:Below w.heap.size w (w.alloc (.cells #[vn,.slice Al ls.length cl] 27)):=bel_
 have gy:Blk (w.alloc (.cells #[vn,.slice Al ls.length cl] 27)) w.heap.size 27 #[vn,.slice Al ls.length cl]:=Blk.newAt rfl;obtain⟨i0,hi,iz0,iz1,iz2⟩:=info_parts Jj;have CB:=ym hw;have GD:=(zM hw).1.2.2.1;have fc:=zJ ns ls;have bH:=h_ (fun d (hd:d<2*ls.length)=>kh (ns:=ns) (ls:=ls) CB hd);have BY:=h_ (vp ns ls);have HR:Hid (besW ns ls=besK (zN ns ls) (z9 ns ls).length ls.length):=h_ (by unfold besW;rw[zW hw]);have nW:=h_ (fun k=>y6 (zN ns ls) (z9 ns ls).length k);have HBR:=h_ (fun k f hf=>kr (zN ns ls) (z9 ns ls).length k f hf);have cI:=h_ (fun k h=>z5y (s:=zN ns ls) (F:=(z9 ns ls).length) (k:=k) h);have HDI:=h_ (fun k a b ha hb h=>z4U (s:=zN ns ls) (F:=(z9 ns ls).length) (k:=k) (a:=a) (b:=b) ha hb h);have HZ:Hid (besK (zN ns ls) (z9 ns ls).length 0=List.replicate (z9 ns ls).length (List.replicate (z9 ns ls).length false)):=h_ rfl;have NR:=h_ (fun (v:World) (h1:RP v vn ns) (h2:RP v (.slice Al ls.length cl) ls)=>Vm vn (.slice Al ls.length cl) ns ls v h1 h2 hw)
 go_enter Tryz.func179,Tryz.ntmps179
 go_wp2_with fail
 refine(jJ _ _ ns ls _ (hn.below Hg) (hl.below Hg)).mono ?_
 rintro e w1 ⟨v1,rfl,Hi,h9⟩;have h8:=Hg.trans (h9.mono Hg.size);have Hz:=gy.below h9 gy.lt;have Ht:=Hz.lt;obtain⟨A1,c1,rfl⟩:=Hi.form;generalize (z9 ns ls).length =F at*;generalize zN ns ls=s at*
 have Wo:OwnTab (w.heap.size+1) (w1.alloc (.cells #[] 182)) (.slice (some ⟨w1.heap.size,0,none⟩) 0 0) F [] (List.replicate 0 (List.replicate F false)):=by
  refine⟨?_,rfl,List.nodup_nil,fun k hk=>absurd hk (by simp)⟩
  exact World.ownsRow_made w1 #[] 0 o_ (by decide) (by simp)
 have Ha:Below w.heap.size w (w1.alloc (.cells #[] 182)):=h8.alloc h8.size _;have gM:=Hz.alloc (.cells #[] 182);go_wp2
 go_loopw [4,5] (fun v x wr=>∃(k:Nat) (gs:List Nat),k<=F/\x= .int .i64 k/\OwnTab (w.heap.size+1) wr v F gs (List.replicate k (List.replicate F false))/\Blk wr w.heap.size 27 #[vn,.slice Al ls.length cl]/\Below w.heap.size w wr) (fun _ x _=>F -(intOf x).toNat)
 case atStart=>exact⟨0,[],aab _,rfl,Wo,gM,Ha⟩
 case round=>
  obtain⟨k,gs,hk,rfl,ho,hW,hB⟩:=hrel;have Gh:=hW.lt
  by_cases Hf:k<F
  ·have Hp:(k:Int)<(F:Int):=o_
   go_wp2_with (at_make;refine wpList_make_full _ rfl _ _ 182 rfl (w.heap.size+1) 4 i0 (.bool false) 1 Tryz.underlying182 hi iz0 iz1 .i64 .i64 _ _ F rfl rfl rfl rfl (by rw[iz2];omega) (by unfold maxLen;omega) o_ ?_)
   intro w3 gY gL;have GO:Below wr.heap.size wr w3:=(aaj _ _).grown gL (aaa _) (by intro k hk;cases hk)
   have Hq:OwnE 4 Value.bool (w.heap.size+1) w3 (rowV F wr.heap.size) (List.replicate F false):=by
    unfold OwnE;rw[aaC,<-z6k];exact gY
   have Hm:=ho.kept GO;have GA:=hW.below GO Gh;have Wp:=hB.trans (GO.mono hB.size);have hgn:∀j,j<(List.replicate k (List.replicate F false)).length ->gs.getD j 0≠wr.heap.size:=fun j hj=>by have:=(z3N ho hj).2;omega
   have G5:=GA.lt;have gH:=Hm.kept (Below.alloc (aaj w3.heap.size w3) (aaa _) (.cells #[rowV F wr.heap.size] 182));have Wq:=OwnE.alloc Hq (.cells #[rowV F wr.heap.size] 182);have BL:=GA.alloc (.cells #[rowV F wr.heap.size] 182);have mL:Below w.heap.size w (w3.alloc (.cells #[rowV F wr.heap.size] 182)):=Wp.alloc Wp.size _
   go_wp2_with (at_builtin;refine QJ rfl _ _ rfl (w.heap.size+1) _ F wr.heap.size gs (List.replicate k (List.replicate F false)) (List.replicate F false) rfl w3.heap.size rfl (jA rfl) gH Wq hgn (by simp;omega) (by simp;omega) ?_)
   intro v5 w5 fG FW;rw[z5V] at fG;have rs:Blk w5 w.heap.size 27 #[vn,.slice Al ls.length cl]:=(FW.block w.heap.size (by simp;omega) (fun e=>by have:=(gH.out.lt _ e.symm).1;omega)).trans BL;have fg:=mL.grown FW (by simp;omega) (fun q hq=>by have:=(gH.out.lt q hq).1;omega);go_wp2;go_roundw
   case rel=>exact⟨k+1,_,by omega,by go_num,fG,rs,fg⟩
   case measure=>simp[intOf];omega
  ·have gi:k=F:=o_
   subst gi;have hgl:gs.length=k:=by have:=ho.len;simpa using this
   have uC:=ho;rw[<-HZ.out] at uC;obtain⟨g,cg,rfl,fM,BF⟩:=uC.blk (by rw[nW.out];exact CB);have RE:∀p:Nat,p<k->(p:Int)<(gs.length:Int):=fun p hp=>by omega
   obtain⟨a_0,a_1⟩:=hW.c2
   go_wp2_with fail
   refine(NR.out _ (hn.below hB) (hl.below hB)).mono ?_
   rintro e w3 ⟨v3,rfl,Hm,He⟩;have bj:=uC.kept He;have GA:=hW.below He Gh;have GO:=hB.trans (He.mono hB.size);have CH:=OwnI.mono Hm (show w.heap.size+1<=wr.heap.size by omega);obtain⟨As,cS,rfl⟩:=OwnE.form (t:=3) (enc:=vI) CH;rw[BY.out] at CH⊢;go_wp2
   go_loopw [7] (fun x wr=>∃j:Nat,j<=ls.length/\x= .int .i64 j/\OwnTab (w.heap.size+1) wr (.slice (some ⟨g,0,none⟩) gs.length cg) k gs (besK s k j)/\OwnI (w.heap.size+1) wr (.slice As (2*ls.length) cS) s/\Blk wr w.heap.size 27 #[vn,.slice Al ls.length cl]/\Below w.heap.size w wr) (fun x _=>ls.length -(intOf x).toNat)
   case atStart=>exact⟨0,aab _,rfl,bj,CH,GA,GO⟩
   case round=>
    obtain⟨j,hj,rfl,hT,hS,hW,hB⟩:=hrel;obtain⟨a_0,a_1⟩:=hW.c2
    by_cases Hf:j<ls.length
    ·obtain⟨p,hp,Wl⟩:=bH.out (2*j) o_
     obtain⟨q,hq,Wm⟩:=bH.out (2*j+1) o_;obtain⟨b,cb,eb,NM,gj,Hb,Gp⟩:=OwnI.blk hS (by rw[BY.out];omega)
     injection eb with eb1 eb2 eb3
     subst eb1;have FE:=Gp (2*j) (by rw[BY.out];omega);have CY:=Gp (2*j+1) (by rw[BY.out];omega);rw[hp] at FE;rw[hq] at CY;have e0w:IntKind.i64.wrap (2*(j:Int))=((2*j:Nat):Int):=by rw[show 2*(j:Int)=((2*j:Nat):Int) by omega];exact aaP _ o_
     have i4:(0:Int)<=(p:Int):=o_
     have i6:(0:Int)<=(q:Int):=o_
     have i8:(p:Int)<(k:Int):=o_
     have i9:(q:Int)<(k:Int):=o_
     have ij:(j:Int)<(ls.length:Int):=o_
     have MZ:=h_ (cI.out j);have uv:=h_ (HDI.out j p q hp hq);rw[hp,hq] at MZ
     by_cases fZ:p=q
     ·have e1:((p:Int)==(q:Int))=true:=beq_iff_eq.2 o_
      have e2:((p:Int) != (q:Int))=false:=by rw[bne,e1];rfl
      have HX:=h_ (MZ.out o_);go_wp2;go_roundw
      case rel=>exact⟨j+1,by omega,by go_num,by rw[HX.out];exact hT,hS,hW,hB⟩
      case measure=>simp[intOf];omega
     ·have e1:((p:Int)==(q:Int))=false:=beq_eq_false_iff_ne.2 o_
      have e2:((p:Int) != (q:Int))=true:=by rw[bne,e1];rfl
      have HX:=h_ (uv.out fZ);have cX:=nW.out j;have HTR:=h_ (HBR.out j);generalize besK s k j=T at*;have rK:p<T.length:=o_
      have rL:q<T.length:=o_
      have u0:=hT.cell rK;have u1:=hT.cell rL;have v0:=hT.cell2 rK (j:=q) (by rw[HTR.out p Wl];exact Wm);have v1:=hT.cell2 rL (j:=p) (by rw[HTR.out q Wm];exact Wl);have f0:=hT.frz2 rK q;have f1:=hT.frz2 rL p;obtain⟨l0a,l0⟩:=z3N hT rK;obtain⟨l1a,l1⟩:=z3N hT rL;have GW:=hT.set_ rK q true;have gU:=GW.set_ (a:=q) (by simpa using rL) p true;have hTT:(T.set p ((T.getD p []).set q true)).set q (((T.set p ((T.getD p []).set q true)).getD q []).set p true)=besK s k (j+1):=by rw[HX.out];rfl
      rw[hTT] at gU;have gd:=z8F hT rK rL fZ;have BZ:=hT.apart rK rfl;have gD:=hT.apart rL rfl;have HO:=h_ (show OwnI (w.heap.size+1) ((wr.setCell ⟨gs.getD p 0,q,none⟩ (.bool true)).setCell ⟨gs.getD q 0,p,none⟩ (.bool true)) (.slice (some ⟨b,0,none⟩) (2*ls.length) cS) s from OwnE.other (t:=3) (enc:=vI) (OwnE.other (t:=3) (enc:=vI) hS (hT.row p rK) z3L (qU (qW _ _) q _)) (GW.row q (by simpa using rL)) z3L (qU (qW _ _) p _));have HS2':=h_ gU;have HW:=h_ (show Blk ((wr.setCell ⟨gs.getD p 0,q,none⟩ (.bool true)).setCell ⟨gs.getD q 0,p,none⟩ (.bool true)) w.heap.size 27 #[vn,.slice Al ls.length cl] from(hW.far (p:=⟨gs.getD p 0,q,none⟩) (show w.heap.size≠gs.getD p 0 by omega) _).far (p:=⟨gs.getD q 0,p,none⟩) (show w.heap.size≠gs.getD q 0 by omega) _);have HB:=h_ (show Below w.heap.size w ((wr.setCell ⟨gs.getD p 0,q,none⟩ (.bool true)).setCell ⟨gs.getD q 0,p,none⟩ (.bool true)) from(hB.setCell (p:=⟨gs.getD p 0,q,none⟩) (show w.heap.size<=gs.getD p 0 by omega) _).setCell (p:=⟨gs.getD q 0,p,none⟩) (show w.heap.size<=gs.getD q 0 by omega) _);generalize gs.getD p 0=ga at*;generalize gs.getD q 0=gb at*;generalize (T.getD p []).getD q false=x0 at*;generalize (T.getD q []).getD p false=x1 at*;have d1:¬ga=gb:=gd;have d2:¬gb=ga:=fun e=>gd e.symm
      have d3:¬g=ga:=BZ;have d4:¬ga=g:=fun e=>BZ e.symm
      have d5:¬g=gb:=gD;go_wp2;go_roundw
      case rel=>exact⟨j+1,by omega,by go_num,HS2'.out,HO.out,HW.out,HB.out⟩
      case measure=>simp[intOf];omega
    ·have GP:j=ls.length:=o_
     subst GP;have hT':=hT;rw[hgl] at hT';have HT:=h_ hT';have HB:=h_ hB;go_wp2;go_ret
     exact⟨_,_,rfl,by rw[HR.out];exact OwnTab.mono HT.out (show w.heap.size<=w.heap.size+1 by omega),HB.out⟩
end Go.Proofs.YtnjcpljhmhdhkaaGreat
