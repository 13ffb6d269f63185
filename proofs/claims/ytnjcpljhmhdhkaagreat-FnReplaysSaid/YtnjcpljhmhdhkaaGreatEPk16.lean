/- part 16 -/
import Derived.Test.YtnjcpljhmhdhkaaGreatEPk12
import Derived.Test.YtnjcpljhmhdhkaaGreatEPk15
set_option linter.unusedSimpArgs false
set_option linter.unusedVariables false
set_option maxRecDepth 100000
set_option maxHeartbeats 2000000
namespace Go.Proofs.YtnjcpljhmhdhkaaGreat
open Go.RowKit
structure OutSt (w:World) (v0 v1 v2 v3 v4:Value) (Z:Nat) (a b c d e:Value) (D:Dr) (fs:List SF) (wr:World):Prop where
 own:OwnD (w.heap.size+1+1) wr a b c d e D fs
 X:Blk wr w.heap.size 30 #[v0,v1,v2,v3,v4]
 R:Blk wr (w.heap.size+1) 30 z5_
 Z_:Blk wr Z 30 #[a,b,c,d,e]
 lt:w.heap.size+1<Z
 far:¬qJ a b c d e fs Z
 blw:Below w.heap.size w wr
section
variable {w wr wr':World} {v0 v1 v2 v3 v4 a b c d e:Value} {Z:Nat} {D:Dr} {fs:List SF}
theorem OutSt.below (h:OutSt w v0 v1 v2 v3 v4 Z a b c d e D fs wr) (hb:Below wr.heap.size wr wr'):OutSt w v0 v1 v2 v3 v4 Z a b c d e D fs wr':=
 ⟨h.own.kept hb,h.X.below hb h.X.lt,h.R.below hb h.R.lt,h.Z_.below hb h.Z_.lt,h.lt,h.far,h.blw.trans (hb.mono h.blw.size)⟩
theorem OutSt.start {base:Nat} (ho:OwnD base wr a b c d e D fs) (Hu:w.heap.size+1+1<=base) (hX:Blk wr w.heap.size 30 #[v0,v1,v2,v3,v4]) (hR:Blk wr (w.heap.size+1) 30 z5_) (hb:Below w.heap.size w wr):
  OutSt w v0 v1 v2 v3 v4 wr.heap.size a b c d e D fs (wr.alloc (.cells #[a,b,c,d,e] 30)):=
 ⟨(ho.mono Hu).alloc _,hX.alloc _,hR.alloc _,Blk.newAt rfl,hR.lt,fun hk=>by have:=(ho.lt _ hk).2;omega,hb.alloc hb.size _⟩
theorem OutSt.fin (h:OutSt w v0 v1 v2 v3 v4 Z a b c d e D fs wr) (u0 u1 u2 u3 u4:Value):
  OwnD w.heap.size (((((wr.setCell ⟨w.heap.size+1,0,none⟩ u0).setCell ⟨w.heap.size+1,1,none⟩ u1).setCell ⟨w.heap.size+1,2,none⟩ u2).setCell ⟨w.heap.size+1,3,none⟩ u3).setCell ⟨w.heap.size+1,4,none⟩ u4) a b c d e D fs/\
  Below w.heap.size w (((((wr.setCell ⟨w.heap.size+1,0,none⟩ u0).setCell ⟨w.heap.size+1,1,none⟩ u1).setCell ⟨w.heap.size+1,2,none⟩ u2).setCell ⟨w.heap.size+1,3,none⟩ u3).setCell ⟨w.heap.size+1,4,none⟩ u4):=by
 have hR:¬qJ a b c d e fs (w.heap.size+1):=fun hk=>by have:=(h.own.lt _ hk).1;omega
 have step:∀(W:World) (j:Nat) (u:Value),OwnD w.heap.size W a b c d e D fs->OwnD w.heap.size (W.setCell ⟨w.heap.size+1,j,none⟩ u) a b c d e D fs:=fun W j u hW=>hW.setFar (p:=⟨w.heap.size+1,j,none⟩) hR u
 have hs:w.heap.size<=w.heap.size+1:=Nat.le_succ _
 exact⟨step _ _ _ (step _ _ _ (step _ _ _ (step _ _ _ (step _ _ _ (h.own.mono o_))))),
  ((((h.blw.setCell (p:=⟨w.heap.size+1,0,none⟩) hs u0).setCell (p:=⟨w.heap.size+1,1,none⟩) hs u1).setCell (p:=⟨w.heap.size+1,2,none⟩) hs u2).setCell (p:=⟨w.heap.size+1,3,none⟩) hs u3).setCell (p:=⟨w.heap.size+1,4,none⟩) hs u4⟩
theorem OwnD.newNow {base base':Nat} {c' d':Value} {N L:List Pr} (h:OwnD base w a b c d e D fs) (hw:OwnW base' w c' d' N L) (hb:base<=base') (hf:∀k,zi c' d' k->¬qJ a b c d e fs k):OwnD base w a b c' d' e ⟨D.fn,D.fl,N,L,D.ss⟩ fs:=
 ⟨h.first,hw.mono hb,h.ss,h.map,fun k hk Fu=>hf k Fu (.inl hk),h.f_s,fun k hk Fu=>hf k hk (.inr (.inr Fu))⟩
theorem Jk {A:Option Addr} {n c k b:Nat} (h:kR (.slice A k c) (fs.take k) b):kR (.slice A n c) fs b:=by
 rcases h with h|⟨i,hi,h⟩
 ·exact .inl (by cases A with|none=>cases h|some a=>exact h)
 ·have Fs:i<fs.length:=by simp at hi;omega
  refine .inr ⟨i,Fs,?_⟩
  rw[abp] at h;exact h
theorem OwnT.takeN {base:Nat} {g n c k:Nat} (h:OwnT base w (.slice (some ⟨g,0,none⟩) n c) fs) (hk:k<=fs.length):OwnT base w (.slice (some ⟨g,0,none⟩) k c) (fs.take k):=by
 have hl:(fs.take k).length =k:=by simp;omega
 refine⟨?_,fun i hi=>?_,fun i hi b hb=>?_,fun i j hi hj gd b=>?_⟩
 ·rw[hl]
  obtain⟨h1,h2⟩:=h.row;refine⟨by rw[qm sfc 5 (fun _=>rfl),hl],?_⟩
  rcases h2 with ⟨e,_⟩|⟨g',cap,cur,e,e1,e2,e3,e4,e5,e6⟩
  ·cases e
  ·injection e with e7 e8 e9
   injection e7 with e7
   injection e7 with e7
   subst e7 e9;refine .inr ⟨g,c,cur,rfl,e1,e2,by omega,e4,e5,?_⟩
   have hx:fs.flatMap sfc=(fs.take k).flatMap sfc++(fs.drop k).flatMap sfc:=by rw[<-aaX,abo]
   have hm:min (k*5) (fs.length*5)=k*5:=o_
   rw[<-hm,<-List.take_take,e6,hx,List.take_left' (by rw[qm sfc 5 (fun _=>rfl),hl])]
 ·rw[abp];exact h.win i o_
 ·rw[abp];exact h.rw_ i o_ b hb
 ·rw[abp,abp];exact h.ww i j o_ o_ gd b
theorem OwnD.popNow {base:Nat} {g n cap k:Nat} (h:OwnD base w a b c d (.slice (some ⟨g,0,none⟩) n cap) D fs) (hk:k<fs.length):OwnD base w a b fs[k].2.1 fs[k].2.2 (.slice (some ⟨g,0,none⟩) k cap) ⟨D.fn,D.fl,fs[k].1.ns,fs[k].1.ls,D.ss.take k⟩ (fs.take k):=by
 refine⟨h.first,h.ss.win k hk,h.ss.takeN o_,by rw[List.map_take,h.map],fun x hx MR=>h.f_s x hx (.inr ⟨k,hk,MR⟩),fun x hx MR=>h.f_s x hx (Jk MR),fun x hx MR=>?_⟩
 rcases MR with MR|⟨i,hi,MR⟩
 ·exact h.ss.rw_ k hk x MR hx
 ·rw[abp] at MR
  have Fs:i<k:=by simp at hi;omega
  exact h.ss.ww i k o_ hk o_ x MR hx
end
theorem OwnT.addr {base:Nat} {w:World} {A:Option Addr} {n c:Nat} {fs:List SF} (h:OwnT base w (.slice A n c) fs) (hn:0<fs.length):∃g,A=some ⟨g,0,none⟩/\n=fs.length/\n<=c:=by
 rcases h.row.2 with ⟨_,h0⟩|⟨g,cap,cur,e,_,_,h3,_⟩
 ·omega
 ·injection e with e1 e2 e3
  exact⟨g,e1,e2,by omega⟩
def z5I (D:Dr) (b:Bool) (w:World) (e:Ending) (w':World):Prop:=∃A0 c0 A1 c1 A2 c2 A3 c3 A4 c4 fs,
 e= .returned (.tuple #[.agg #[.slice A0 D.fn.length c0,.slice A1 D.fl.length c1,.slice A2 D.nn.length c2,.slice A3 D.nl.length c3,.slice A4 D.ss.length c4],.bool b])/\
 OwnD w.heap.size w' (.slice A0 D.fn.length c0) (.slice A1 D.fl.length c1) (.slice A2 D.nn.length c2) (.slice A3 D.nl.length c3) (.slice A4 D.ss.length c4) D fs/\Below w.heap.size w w'
def z0G (b:Bool) (D:Dr):Bool:=b&&decide (0<D.ss.length)
def z2E (b:Bool) (D:Dr):Dr:=if h:b=true/\0<D.ss.length then⟨D.fn,D.fl,(D.ss[D.ss.length -1]'o_).ns,(D.ss[D.ss.length -1]'o_).ls,D.ss.take (D.ss.length -1)⟩ else D
theorem z6m {b:Bool} {D:Dr} (h:¬(b=true/\0<D.ss.length)):z2E b D=D:=by unfold z2E;rw[dif_neg h]
theorem z4A {D:Dr} (h:0<D.ss.length):z2E true D=⟨D.fn,D.fl,(D.ss[D.ss.length -1]'o_).ns,(D.ss[D.ss.length -1]'o_).ls,D.ss.take (D.ss.length -1)⟩:=by unfold z2E;rw[dif_pos ⟨rfl,h⟩]
theorem k7 {P:Program} {w:World} {t ty e:TypeId} {i:TypeInfo} {base:Nat} {z:Value} {sz by_:Nat} (ht:P.underlying t=some (.slice e)) (hi:P.info? e=some i) (hz:i.zero=some z) (Hs:i.size=sz) (GN:i.bytes=by_) (NL:z.cells.size=sz) (gx:0<sz)
  {v u:Value} {n m:Nat} {xs l:List Value} (hown:w.ownsRow base e sz v n xs) (hr:RS w sz u m l) (Fq:∀x∈l,x.oneCell'=true) (Hj:n+m<=1048576+1048576) (gj:by_<=100) (Hu:base<=w.heap.size):
  ∃A c w',(Builtin.append_ #[t,t] ty #[v,u]).run P w= .ok (.slice A (n+m) c) w'/\w'.ownsRow base e sz (.slice A (n+m) c) (n+m) (xs++l)/\w.grownBy w' v.ownBlock/\
   ((Value.slice A (n+m) c).ownBlock =v.ownBlock∨(Value.slice A (n+m) c).ownBlock =some w.heap.size):=by
 have rD:∀ {w0:World} {v0:Value} {n0:Nat} {xs0:List Value},w0.ownsRow base e sz v0 n0 xs0->∃A c,v0= .slice A n0 c/\n0<=c:=by
  intro w0 v0 n0 xs0 h
  rcases h.2 with ⟨rfl,hn⟩|⟨g,cap,cur,rfl,_,_,CC,_⟩
  ·exact⟨none,0,by rw[hn],by omega⟩
  ·exact⟨_,cap,rfl,CC⟩
 obtain⟨mx,A,c,rfl,hc,hm,hcell⟩:=hr
 cases A with
 |none=>
  have Rm:m=0:=by
   rcases abv m with h|h
   ·exact h
   ·obtain⟨b,off,h1,_⟩:=hcell h
    cases h1
  subst Rm;have hl:l=[]:=abx o_;subst hl;obtain⟨A,cp,rfl,nG⟩:=rD hown;refine⟨A,cp,w,?_,by rw[List.append_nil];exact hown,World.grownBy.refl _ _,.inl rfl⟩
  exact yY ht hi A _ cp c nG
 |some a=>
  have hn:∀(j:Nat) (x:Value),l[j]? =some x->w.cell? (a.add j)=some x:=by
   intro j x hx;have hj:=(List.getElem?_eq_some_iff.1 hx).1
   have Cv:0<m:=by
    rcases abv m with h|h
    ·subst h;omega
    ·exact h
   obtain⟨b,off,e5,_,e6⟩:=hcell Cv
   cases e5
   rw[ki];exact e6 j x hx
  have hbm:(n+m)*by_<=(1048576+1048576)*100:=Nat.mul_le_mul Hj gj;obtain⟨v',w',h1,h2,h3,_,h5⟩:=run_append_own_at (P:=P) w base t ty e i z sz by_ ht hi hz Hs GN NL gx v n xs hown a m c l mx hn Fq (by unfold maxLen;omega) o_ Hu;obtain⟨A',c',rfl,_⟩:=rD h2;exact⟨A',c',w',h1,h2,h3,h5⟩
theorem qT {P:Program} {w:World} {ops:Array Oper} {rest:List Oper} {o:Oper} {a:Act} {Q:Exit->Act->World->Prop} (fY:o.guard=none) (s x:Operand) (t:TypeId)
  (ho:o.op= .call { callee:= .builtin .append,args:= #[s,x],argTypes:= #[t,t] })
  (base:Nat) (e:TypeId) (i:TypeInfo) (z:Value) (sz by_:Nat) (ht:P.underlying t=some (.slice e)) (hi:P.info? e=some i) (hz:i.zero=some z) (Hs:i.size=sz) (GN:i.bytes=by_) (NL:z.cells.size=sz) (gx:0<sz)
  (v u:Value) (n m:Nat) (xs l:List Value) (hs:a.eval s=v) (hx:a.eval x=u) (hown:w.ownsRow base e sz v n xs) (hr:RS w sz u m l) (Fq:∀x∈l,x.oneCell'=true) (Hj:n+m<=1048576+1048576) (gj:by_<=100) (Hu:base<=w.heap.size)
  (h:∀A c w',w'.ownsRow base e sz (.slice A (n+m) c) (n+m) (xs++l)->w.grownBy w' v.ownBlock->((Value.slice A (n+m) c).ownBlock =v.ownBlock∨(Value.slice A (n+m) c).ownBlock =some w.heap.size)->wpList P ops Q rest (a.put o.dst (.slice A (n+m) c)) w'):
  wpList P ops Q (o::rest) a w:=
 wpList_plain fY fun K hK=>by
  obtain⟨A,c,w',GC,h2,h3,h4⟩:=k7 (ty:=o.type) ht hi hz Hs GN NL gx hown hr Fq Hj gj Hu;unfold Oper.wp execOp;simp only[ho,resolve,invoke,builtin,Sem.run_bind,Sem.run_pure,aaY,List.map_toArray,aaS,aaT,hs,hx,GC]
  exact hK _ _ (h A c w' h2 h3 h4)
theorem x5 {P:Program} {w:World} {ops:Array Oper} {o:Oper} {a:Act} {K:Act->World->Prop} {Q:Exit->Act->World->Prop} {E:Prop} (fY:o.guard=none) (s x:Operand) (t:TypeId)
  (ho:o.op= .call { callee:= .builtin .append,args:= #[s,x],argTypes:= #[t,t] })
  (base:Nat) (e:TypeId) (i:TypeInfo) (z:Value) (sz by_:Nat) (ht:P.underlying t=some (.slice e)) (hi:P.info? e=some i) (hz:i.zero=some z) (Hs:i.size=sz) (GN:i.bytes=by_) (NL:z.cells.size=sz) (gx:0<sz)
  (v u:Value) (n m:Nat) (xs l:List Value) (hs:a.eval s=v) (hx:a.eval x=u) (hown:w.ownsRow base e sz v n xs) (hr:RS w sz u m l) (Fq:∀x∈l,x.oneCell'=true) (Hj:n+m<=1048576+1048576) (gj:by_<=100) (Hu:base<=w.heap.size)
  (h:∀A c w',w'.ownsRow base e sz (.slice A (n+m) c) (n+m) (xs++l)->w.grownBy w' v.ownBlock->((Value.slice A (n+m) c).ownBlock =v.ownBlock∨(Value.slice A (n+m) c).ownBlock =some w.heap.size)->K (a.put o.dst (.slice A (n+m) c)) w'):
  if Region.wanted o (yielded ops a.tmps)=true then Oper.wp P o a w K Q else E:=by
 have hw:Region.wanted o (yielded ops a.tmps)=true:=by simp[Region.wanted,fY]
 rw[aao hw];obtain⟨A,c,w',GC,h2,h3,h4⟩:=k7 (ty:=o.type) ht hi hz Hs GN NL gx hown hr Fq Hj gj Hu;unfold Oper.wp execOp;simp only[ho,resolve,invoke,builtin,Sem.run_bind,Sem.run_pure,aaY,List.map_toArray,aaS,aaT,hs,hx,GC]
 exact h A c w' h2 h3 h4
theorem z9K (zs:List Int):∀x∈zs.map vI,x.oneCell'=true:=by
 intro x hx;rw[List.mem_map] at hx;obtain⟨z,_,rfl⟩:=hx;rfl
theorem z9H (l:List Dp):∀x∈l.flatMap Dp.cs,x.oneCell'=true:=by
 intro x hx;rw[List.mem_flatMap] at hx;obtain⟨d,_,hd⟩:=hx;simp only[Dp.cs,List.mem_cons,List.mem_nil_iff,or_false] at hd
 rcases hd with rfl|rfl|rfl<;>rfl
theorem vZ (v:Value) (zs:List Int) (w:World) (h:RI w v zs) (hle:zs.length<=1048576):
  Calls Tryz.prog 133 #[v] w (RetI zs w):=by
 obtain⟨i0,hi,iz0,iz1,iz2⟩:=info_parts qu;have HR:=h_ h;clear h
 go_enter Tryz.func133,Tryz.ntmps133
 go_wp2_with (at_builtin;refine qT rfl _ _ _ rfl w.heap.size 3 i0 (.int .i64 0) 1 8 Tryz.underlying31 hi iz0 iz1 iz2 rfl (by decide) (.slice none 0 0) v 0 zs.length [] (zs.map vI) rfl rfl (World.ownsRow_nil _ _ _ _) HR.out (z9K zs) o_ (by decide) (aaa _) ?_)
 intro A c w1 ho hg ha;have hb:=kc hg;have HO:Hid (OwnI w.heap.size w1 (.slice A zs.length c) zs):=h_ ho;clear ho hg ha;go_wp2;go_ret
 exact⟨_,rfl,HO.out,hb⟩
theorem z6N:(Tryz.prog.info? 48).map (fun i=>(i.zero,i.size,i.bytes))=some (some (.agg #[.int .i64 0,.int .i64 0,.int .i64 0]),3,24):=xS
theorem yb (v:Value) (l:List Dp) (w:World) (h:RDp w v l) (hle:l.length<=1048576):
  Calls Tryz.prog 134 #[v] w (z9i l w):=by
 obtain⟨i0,hi,iz0,iz1,iz2⟩:=info_parts xS;have HR:=h_ h;clear h
 go_enter Tryz.func134,Tryz.ntmps134
 go_wp2_with (at_builtin;refine qT rfl _ _ _ rfl w.heap.size 48 i0 (.agg #[.int .i64 0,.int .i64 0,.int .i64 0]) 3 24 Tryz.underlying32 hi iz0 iz1 iz2 rfl (by decide) (.slice none 0 0) v 0 l.length [] (l.flatMap Dp.cs) rfl rfl (World.ownsRow_nil _ _ _ _) HR.out (z9H l) o_ (by decide) (aaa _) ?_)
 intro A c w1 ho hg ha;have hb:=kc hg;have HO:Hid (zK w.heap.size w1 (.slice A l.length c) l):=h_ ho;clear ho hg ha;go_wp2;go_ret
 exact⟨_,rfl,HO.out,hb⟩
end Go.Proofs.YtnjcpljhmhdhkaaGreat
