/- part 22 -/
import Derived.Test.YtnjcpljhmhdhkaaGreatTPk21
import Derived.Deep.RegionHeld3
set_option linter.unusedSimpArgs false
set_option linter.unusedVariables false
set_option maxRecDepth 100000
set_option maxHeartbeats 8000000
namespace Go.Proofs.YtnjcpljhmhdhkaaGreat
open Go.RowKit
theorem z2f (f:SF) (A0 A1:Option Addr) (n0 c0 n1 c1:Nat) (h0:f.2.1= .slice A0 n0 c0) (h1:f.2.2= .slice A1 n1 c1):∀u∈sfc f,u.oneCell'=true:=by
 intro u hu;simp only[sfc,List.mem_cons,List.mem_nil_iff,or_false,h0,h1] at hu
 rcases hu with rfl|rfl|rfl|rfl|rfl<;>rfl
theorem QZ {P:Program} {w:World} {t ty e:TypeId} {i:TypeInfo} {base:Nat} (ht:P.underlying t=some (.slice e)) (hi:P.info? e=some i) (hz:i.zero=some (.agg #[.int .i64 0,.int .i64 0,.int .i64 0,.slice none 0 0,.slice none 0 0])) (hsize:i.size=5) (hby:i.bytes=72)
  {v:Value} {fs:List SF} {f:SF} {a:Addr} {c:Nat} (hown:w.ownsRow base e 5 v fs.length (fs.flatMap sfc)) (hn:∀(j:Nat) (u:Value),(sfc f)[j]? =some u→w.cell? (a.add j)=some u) (hone:∀u∈sfc f,u.oneCell'=true)
  (hlen:fs.length≤1048576) (hbase:base≤w.heap.size):
  ∃A c' w',(Builtin.append_ #[t,t] ty #[v,.slice (some a) 1 c]).run P w= .ok (.slice A (fs.length+1) c') w'∧w'.ownsRow base e 5 (.slice A (fs.length+1) c') (fs.length+1) ((fs++[f]).flatMap sfc)∧w.grownBy w' v.ownBlock∧
   ((Value.slice A (fs.length+1) c').ownBlock =v.ownBlock∨(Value.slice A (fs.length+1) c').ownBlock =some w.heap.size):=by
 obtain⟨v',w',h1,h2,h3,_,h5⟩:=run_append_own_at (P:=P) w base t ty e i _ 5 72 ht hi hz hsize hby rfl (by decide) v fs.length (fs.flatMap sfc) hown a 1 c (sfc f) (by simp[sfc]) hn hone (by unfold maxLen;omega) (by omega) hbase
 have h2':w'.ownsRow base e 5 v' (fs.length+1) ((fs++[f]).flatMap sfc):=by
  rw[List.flatMap_append]
  simpa using h2
 rcases h2.2 with ⟨_,hz0⟩|⟨g,cap,cur,rfl,_⟩
 ·omega
 ·exact⟨_,cap,w',h1,h2',h3,h5⟩
theorem yv {P:Program} {w:World} {ops:Array Oper} {rest:List Oper} {o:Oper} {a:Act} {Q:Exit→Act→World→Prop} (hgd:o.guard=none) (s x:Operand) (t:TypeId)
  (ho:o.op= .call { callee:= .builtin .append,args:= #[s,x],argTypes:= #[t,t] })
  (base:Nat) (e:TypeId) (i:TypeInfo) (ht:P.underlying t=some (.slice e)) (hi:P.info? e=some i) (hz:i.zero=some (.agg #[.int .i64 0,.int .i64 0,.int .i64 0,.slice none 0 0,.slice none 0 0])) (hsize:i.size=5) (hby:i.bytes=72)
  (v:Value) (fs:List SF) (f:SF) (ad:Addr) (c:Nat) (hs:a.eval s=v) (hx:a.eval x= .slice (some ad) 1 c) (hown:w.ownsRow base e 5 v fs.length (fs.flatMap sfc)) (hn:∀(j:Nat) (u:Value),(sfc f)[j]? =some u→w.cell? (ad.add j)=some u)
  (hone:∀u∈sfc f,u.oneCell'=true) (hlen:fs.length≤1048576) (hbase:base≤w.heap.size)
  (h:∀A c' w',w'.ownsRow base e 5 (.slice A (fs.length+1) c') (fs.length+1) ((fs++[f]).flatMap sfc)→w.grownBy w' v.ownBlock→((Value.slice A (fs.length+1) c').ownBlock =v.ownBlock∨(Value.slice A (fs.length+1) c').ownBlock =some w.heap.size)→wpList P ops Q rest (a.put o.dst (.slice A (fs.length+1) c')) w'):
  wpList P ops Q (o::rest) a w:=
 wpList_plain hgd fun K hK=>by
  obtain⟨A,c',w',hrun,h2,h3,h4⟩:=QZ (ty:=o.type) (c:=c) ht hi hz hsize hby hown hn hone hlen hbase;unfold Oper.wp execOp;simp only[ho,resolve,invoke,builtin,Sem.run_bind,Sem.run_pure,Result.andThen_ok,List.map_toArray,List.map_cons,List.map_nil,hs,hx,hrun]
  exact hK _ _ (h A c' w' h2 h3 h4)
theorem OwnT.snoc {base:Nat} {w w':World} {v v':Value} {fs:List SF} {f:SF} (h:OwnT base w v fs) (hr:w'.ownsRow base 113 5 v' (fs.length+1) ((fs++[f]).flatMap sfc)) (hg:w.grownBy w' v.ownBlock)
  (hv:v'.ownBlock=v.ownBlock∨v'.ownBlock=some w.heap.size) (hf:OwnW base w f.2.1 f.2.2 f.1.ns f.1.ls) (hfr:∀b,zl f.2.1 f.2.2 b→v.ownBlock≠some b) (hfw:∀j (hj:j<fs.length) b,zl f.2.1 f.2.2 b→¬zl fs[j].2.1 fs[j].2.2 b):
  OwnT base w' v' (fs++[f]):=by
 have ht:Turns (fun b=>v.ownBlock=some b) w w':=Turns.ofGrown hg (fun k hk=>hk)
 have hlast:∀k (hk:k<(fs++[f]).length),k<fs.length∨(k=fs.length∧(fs++[f])[k]=f):=by
  intro k hk
  by_cases hlt:k<fs.length
  ·exact .inl hlt
  ·have:k=fs.length:=by simp at hk;omega
   subst this;exact .inr ⟨rfl,by simp⟩
 refine⟨by simpa using hr,fun k hk=>?_,fun k hk b hb=>?_,fun i j hi hj hne b=>?_⟩
 ·rcases hlast k hk with hlt|⟨rfl,e⟩
  ·rw[List.getElem_append_left hlt]
   exact(h.win k hlt).turned ht (fun b hb e=>h.rw_ k hlt b e hb)
  ·rw[e]
   exact hf.turned ht (fun b hb=>hfr b hb)
 ·rcases hlast k hk with hlt|⟨rfl,e⟩
  ·rw[List.getElem_append_left hlt]
   rcases hv with hv|hv
   ·exact h.rw_ k hlt b (hv▸hb)
   ·intro hb'
    have:=((h.win k hlt).lt b hb').2;rw[hv] at hb
    cases hb
    omega
  ·rw[e]
   rcases hv with hv|hv
   ·exact fun hb'=>hfr b hb' (hv▸hb)
   ·intro hb'
    have:=(hf.lt b hb').2;rw[hv] at hb
    cases hb
    omega
 ·rcases hlast i hi with h1|⟨rfl,e1⟩<;>rcases hlast j hj with h2|⟨rfl,e2⟩
  ·rw[List.getElem_append_left h1,List.getElem_append_left h2]
   exact h.ww i j h1 h2 hne b
  ·rw[List.getElem_append_left h1,e2]
   exact fun a c=>hfw i h1 b c a
  ·rw[List.getElem_append_left h2,e1]
   exact hfw j h2 b
  ·omega
theorem OwnD.mono {base base':Nat} {w:World} {a b c d e:Value} {D:Dr} {fs:List SF} (h:OwnD base w a b c d e D fs) (hb:base'≤base):OwnD base' w a b c d e D fs:=
 ⟨h.first.mono hb,h.now.mono hb,h.ss.mono hb,h.map,h.f_n,h.f_s,h.n_s⟩
theorem OwnD.setFar {base:Nat} {w:World} {a b c d e:Value} {D:Dr} {fs:List SF} (h:OwnD base w a b c d e D fs) {p:Addr} (hp:¬qw a b c d e fs p.block) (u:Value):OwnD base (w.setCell p u) a b c d e D fs:=
 h.turned (S:=fun k=>k=p.block) (Turns.ofGrown (qO w p u) (fun k hk=>by cases hk;rfl)) (fun k hk e=>hp (e▸hk))
theorem z0H {w:World} {f:SF} {cs:Array Value} {t:TypeId} {g:Nat} (hg:g=w.heap.size) (hcs:cs.toList=sfc f):∀(j:Nat) (u:Value),(sfc f)[j]? =some u→(w.alloc (.cells cs t)).cell? ((⟨g,0,none⟩:Addr).add j)=some u:=by
 subst hg;intro j u hu;rw[←hcs] at hu;have hu':cs[j]? =some u:=by simpa using hu
 rw[ku,Nat.zero_add,cell_of_row _ _ _ cs t (0,0) (heap_alloc_new w _)];exact hu'
theorem xw {e e':Value} {fs:List SF} {f:SF} {n k:Nat} (hv:e'.ownBlock=e.ownBlock∨e'.ownBlock=some n) (h:yd e' (fs++[f]) k):yd e fs k∨k=n∨zl f.2.1 f.2.2 k:=by
 rcases h with h|⟨i,hi,h⟩
 ·rcases hv with hv|hv
  ·exact .inl (.inl (hv▸h))
  ·rw[hv] at h;cases h;exact .inr (.inl rfl)
 ·by_cases hlt:i<fs.length
  ·rw[List.getElem_append_left hlt] at h
   exact .inl (.inr ⟨i,hlt,h⟩)
  ·have:i=fs.length:=by simp at hi;omega
   subst this;simp at h
   exact .inr (.inr h)
theorem OwnD.snoc {base:Nat} {w w':World} {a b c d e e':Value} {D:Dr} {fs:List SF} {f:SF} (h:OwnD base w a b c d e D fs) (hr:w'.ownsRow base 113 5 e' (fs.length+1) ((fs++[f]).flatMap sfc)) (hg:w.grownBy w' e.ownBlock)
  (hv:e'.ownBlock=e.ownBlock∨e'.ownBlock=some w.heap.size) (hf:OwnW base w f.2.1 f.2.2 f.1.ns f.1.ls) (hfr:∀k,zl f.2.1 f.2.2 k→¬qw a b c d e fs k):OwnD base w' a b c d e' ⟨D.fn,D.fl,D.nn,D.nl,D.ss++[f.1]⟩ (fs++[f]):=by
 have ht:Turns (fun b=>e.ownBlock=some b) w w':=Turns.ofGrown hg (fun k hk=>hk)
 refine⟨h.first.turned ht (fun k hk e1=>h.f_s k hk (.inl e1)),h.now.turned ht (fun k hk e1=>h.n_s k hk (.inl e1)),
  h.ss.snoc hr hg hv hf (fun k hk e1=>hfr k hk (.inr (.inr (.inl e1)))) (fun j hj k hk hk'=>hfr k hk (.inr (.inr (.inr ⟨j,hj,hk'⟩)))),by rw[List.map_append,h.map];rfl,h.f_n,fun k hk hk'=>?_,fun k hk hk'=>?_⟩
 ·rcases xw hv hk' with h1|h1|h1
  ·exact h.f_s k hk h1
  ·have:=(h.first.lt k hk).2;omega
  ·exact hfr k h1 (.inl hk)
 ·rcases xw hv hk' with h1|h1|h1
  ·exact h.n_s k hk h1
  ·have:=(h.now.lt k hk).2;omega
  ·exact hfr k h1 (.inr (.inl hk))
theorem Zs {a b c d e e':Value} {fs:List SF} {f:SF} {n k:Nat} (hv:e'.ownBlock=e.ownBlock∨e'.ownBlock=some n) (h:qw a b c d e' (fs++[f]) k):qw a b c d e fs k∨k=n∨zl f.2.1 f.2.2 k:=by
 rcases h with h|h|h
 ·exact .inl (.inl h)
 ·exact .inl (.inr (.inl h))
 ·rcases xw hv h with h|h|h
  ·exact .inl (.inr (.inr h))
  ·exact .inr (.inl h)
  ·exact .inr (.inr h)
def CpSt (w:World) (D:Dr) (v0 v1 v2 v3 v4:Value) (Z k:Nat) (wr:World):Prop:=
 ∃A0 c0 A1 c1 A2 c2 A3 c3 A4 c4 fs,OwnD (w.heap.size+1+1) wr (.slice A0 D.fn.length c0) (.slice A1 D.fl.length c1) (.slice A2 D.nn.length c2) (.slice A3 D.nl.length c3) (.slice A4 k c4) ⟨D.fn,D.fl,D.nn,D.nl,D.ss.take k⟩ fs∧
  Blk wr w.heap.size 30 #[v0,v1,v2,v3,v4]∧Blk wr (w.heap.size+1) 30 #[.slice none 0 0,.slice none 0 0,.slice none 0 0,.slice none 0 0,.slice none 0 0]∧
  Blk wr Z 30 #[.slice A0 D.fn.length c0,.slice A1 D.fl.length c1,.slice A2 D.nn.length c2,.slice A3 D.nl.length c3,.slice A4 k c4]∧
  w.heap.size+1<Z∧¬qw (.slice A0 D.fn.length c0) (.slice A1 D.fl.length c1) (.slice A2 D.nn.length c2) (.slice A3 D.nl.length c3) (.slice A4 k c4) fs Z∧Below w.heap.size w wr
theorem OwnW.setOff {base:Nat} {w:World} {a b:Value} {ns ls:List Pr} (h:OwnW base w a b ns ls) {p:Addr} (hp:¬zl a b p.block) (u:Value):OwnW base (w.setCell p u) a b ns ls:=
 h.turned (S:=fun k=>k=p.block) (Turns.ofGrown (qO w p u) (fun k hk=>by cases hk;rfl)) (fun k hk e=>hp (e▸hk))
theorem vz {w wE:World} {v0 v1 v2 v3 v4:Value} {D:Dr} {A0 A1 A2 A3:Option Addr} {c0 c1 c2 c3 B1 B2 Z:Nat} (hX:Blk wE w.heap.size 30 #[v0,v1,v2,v3,v4]) (hR:Blk wE (w.heap.size+1) 30 #[.slice none 0 0,.slice none 0 0,.slice none 0 0,.slice none 0 0,.slice none 0 0])
  (hZ:Blk wE Z 30 #[.slice A0 D.fn.length c0,.slice A1 D.fl.length c1,.slice A2 D.nn.length c2,.slice A3 D.nl.length c3,.slice none 0 0])
  (h1:OwnW B1 wE (.slice A0 D.fn.length c0) (.slice A1 D.fl.length c1) D.fn D.fl) (h2:OwnW B2 wE (.slice A2 D.nn.length c2) (.slice A3 D.nl.length c3) D.nn D.nl)
  (hlt:∀k,zl (.slice A0 D.fn.length c0) (.slice A1 D.fl.length c1) k→k<B2) (e1:w.heap.size+1+1≤B1) (e2:w.heap.size+1+1≤B2)
  (z1:¬zl (.slice A0 D.fn.length c0) (.slice A1 D.fl.length c1) Z) (z2:¬zl (.slice A2 D.nn.length c2) (.slice A3 D.nl.length c3) Z) (hZl:w.heap.size+1<Z) (hb:Below w.heap.size w wE):
  CpSt w D v0 v1 v2 v3 v4 Z 0 wE:=by
 have hn:∀k,¬yd (.slice none 0 0) [] k:=by
  rintro k (h|⟨i,hi,_⟩)
  ·simp[Value.ownBlock] at h
  ·simp at hi
 refine⟨A0,c0,A1,c1,A2,c2,A3,c3,none,0,[],⟨h1.mono e1,h2.mono e2,OwnT.nil _ _,by simp,fun k a b=>?_,fun k _ b=>hn k b,fun k _ b=>hn k b⟩,hX,hR,hZ,hZl,?_,hb⟩
 ·have:=hlt k a
  have:=(h2.lt k b).1;omega
 ·rintro(h|h|h)
  ·exact z1 h
  ·exact z2 h
  ·exact hn _ h
theorem z0Y (v0 v1 v2 v3 v4:Value) (D:Dr) (w:World) (h:RD w v0 v1 v2 v3 v4 D) (hle:DrLe D):
  Calls Tryz.prog 135 #[.agg #[v0,v1,v2,v3,v4]] w (RetD D w):=by
 have HLE:=Lib.hid hle;have hfn:=h.fn;have hfl:=h.fl;have hnn:=h.nn;have hnl:=h.nl;obtain⟨A,c,e4,hc,hm,hcell⟩:=h.ss;subst e4;unfold maxLen at hm;clear hle h;obtain⟨i0,hi,iz0,iz1,iz2⟩:=info_parts ZE;have hlt2:w.heap.size<w.heap.size+1+1:=by omega
 have hlt3:w.heap.size<w.heap.size+1+1+1:=by omega
 have hne2:¬w.heap.size+1+1=w.heap.size:=by omega
 go_enter Tryz.func135,Tryz.ntmps135
 go_wp2_with fail
 go_cut [3] (fun z wx=>∃Z,z= .pointer (some ⟨Z,0,none⟩)∧CpSt w D v0 v1 v2 v3 (.slice A D.ss.length c) Z 0 wx)
 case first=>
  go_region_held3 (fun w'=>w'.cell? ⟨w.heap.size,0,none⟩=some v0∧w'.cell? ⟨w.heap.size,1,none⟩=some v1∧w'.cell? ⟨w.heap.size,2,none⟩=some v2∧w'.cell? ⟨w.heap.size,3,none⟩=some v3)
   (go_keep)
   (first|(go_at_call 110;refine Calls.mono (qg _ _ D.fn D.fl _ ?a1 ?a2 HLE.out.fn HLE.out.fl) ?_;(case a1=>exact hfn.below (by exact bel_));(case a2=>exact hfl.below (by exact bel_));rintro e w1 ⟨An1,cn1,Al1,cl1,rfl,ho1,hb1⟩;(first|(with_reducible have hcf1:=z8 hb1)|have hcf1:=bcell hb1);obtain⟨hc1,hf1⟩:=hcf1;have hz1:=hb1.size;(try simp at hz1);(try have hp1_0:=p0_ w w1);(try have hp1_1:=p1_ w w1);(try have hp1_2:=p2_ w w1);(try have hp1_3:=p3_ w w1);(have hq1:w.heap.size<w1.heap.size+1:=by omega);(have hq2:¬w1.heap.size=w.heap.size:=by omega))|(go_at_call 110;refine Calls.mono (qg _ _ D.nn D.nl _ ?a3 ?a4 HLE.out.nn HLE.out.nl) ?_;(case a3=>exact hnn.below (by exact bel_));(case a4=>exact hnl.below (by exact bel_));rintro e w2 ⟨An2,cn2,Al2,cl2,rfl,ho2,hb2⟩;(first|(with_reducible have hcf2:=z8 hb2)|have hcf2:=bcell hb2);obtain⟨hc2,hf2⟩:=hcf2;have hz2:=hb2.size;(try simp at hz2);(try have hp2_0:=p0_ w w2);(try have hp2_1:=p1_ w w2);(try have hp2_2:=p2_ w w2);(try have hp2_3:=p3_ w w2);(have hq3:¬w2.heap.size=w.heap.size:=by omega)))
  all_goals go_wp2
  all_goals go_meet
  ·have hBB:Below (w.heap.size+1+1) ((w.alloc (.cells #[v0,v1,v2,v3,.slice A D.ss.length c] 30)).alloc (.cells #[.slice none 0 0,.slice none 0 0,.slice none 0 0,.slice none 0 0,.slice none 0 0] 30)) w2:=by exact bel_
   have hX2:=Blk.below ((Blk.newAt rfl).alloc _) hBB (show w.heap.size<_ by omega);have hR2:=Blk.below (Blk.newAt (by simp)) hBB (show w.heap.size+1<_ by omega);have hl1:∀k,zl (.slice An1 D.fn.length cn1) (.slice Al1 D.fl.length cl1) k→w.heap.size+1+1≤k∧k<w1.heap.size:=fun k hk=>by have:=ho1.lt k hk;simp at this;omega
   have hl2:=ho2.lt;exact⟨_,rfl,vz (hX2.alloc _) (hR2.alloc _) (Blk.newAt rfl) ((ho1.kept hb2).alloc' _) (ho2.alloc' _) (fun k hk=>(hl1 k hk).2) (by simp) (by omega) (fun hk=>by have:=(hl1 _ hk).2;omega) (fun hk=>by have:=(hl2 _ hk).2;omega) (by omega) (by exact bel_)⟩
  ·have hBB:Below (w.heap.size+1+1) ((w.alloc (.cells #[v0,v1,v2,v3,.slice A D.ss.length c] 30)).alloc (.cells #[.slice none 0 0,.slice none 0 0,.slice none 0 0,.slice none 0 0,.slice none 0 0] 30)) w2:=by exact bel_
   have hX2:=Blk.below ((Blk.newAt rfl).alloc _) hBB (show w.heap.size<_ by omega);have hR2:=Blk.below (Blk.newAt (by simp)) hBB (show w.heap.size+1<_ by omega);have hZ2:=Blk.below (Blk.newAt rfl) hb2 (show w1.heap.size<_ by simp);have hl1:∀k,zl (.slice An1 D.fn.length cn1) (.slice Al1 D.fl.length cl1) k→w.heap.size+1+1≤k∧k<w1.heap.size:=fun k hk=>by have:=ho1.lt k hk;simp at this;omega
   have hl2:∀k,zl (.slice An2 D.nn.length cn2) (.slice Al2 D.nl.length cl2) k→w1.heap.size+1≤k∧k<w2.heap.size:=fun k hk=>by have:=ho2.lt k hk;simp at this;omega
   have z1:¬zl (.slice An1 D.fn.length cn1) (.slice Al1 D.fl.length cl1) w1.heap.size:=fun hk=>by have:=(hl1 _ hk).2;omega
   have z2:¬zl (.slice An2 D.nn.length cn2) (.slice Al2 D.nl.length cl2) w1.heap.size:=fun hk=>by have:=(hl2 _ hk).1;omega
   have n0:w.heap.size≠w1.heap.size:=by omega
   have n1:w.heap.size+1≠w1.heap.size:=by omega
   have ho1':=(ho1.alloc' _).kept hb2
   exact⟨_,rfl,vz (((((hX2.far (p:=⟨w1.heap.size,0,none⟩) n0 _).far (p:=⟨w1.heap.size,1,none⟩) n0 _).far (p:=⟨w1.heap.size,2,none⟩) n0 _).far (p:=⟨w1.heap.size,3,none⟩) n0 _).far (p:=⟨w1.heap.size,4,none⟩) n0 _)
    (((((hR2.far (p:=⟨w1.heap.size,0,none⟩) n1 _).far (p:=⟨w1.heap.size,1,none⟩) n1 _).far (p:=⟨w1.heap.size,2,none⟩) n1 _).far (p:=⟨w1.heap.size,3,none⟩) n1 _).far (p:=⟨w1.heap.size,4,none⟩) n1 _)
    (((((hZ2.set_ 0 _).set_ 1 _).set_ 2 _).set_ 3 _).set_ 4 _)
    (((((ho1'.setOff (p:=⟨w1.heap.size,0,none⟩) z1 _).setOff (p:=⟨w1.heap.size,1,none⟩) z1 _).setOff (p:=⟨w1.heap.size,2,none⟩) z1 _).setOff (p:=⟨w1.heap.size,3,none⟩) z1 _).setOff (p:=⟨w1.heap.size,4,none⟩) z1 _)
    (((((ho2.setOff (p:=⟨w1.heap.size,0,none⟩) z2 _).setOff (p:=⟨w1.heap.size,1,none⟩) z2 _).setOff (p:=⟨w1.heap.size,2,none⟩) z2 _).setOff (p:=⟨w1.heap.size,3,none⟩) z2 _).setOff (p:=⟨w1.heap.size,4,none⟩) z2 _)
    (fun k hk=>by have:=(hl1 k hk).2;simp;omega) (by simp) (by simp;omega) z1 z2 (by omega) (by exact bel_)⟩
  ·have hBB:Below (w.heap.size+1+1+1) (((w.alloc (.cells #[v0,v1,v2,v3,.slice A D.ss.length c] 30)).alloc (.cells #[.slice none 0 0,.slice none 0 0,.slice none 0 0,.slice none 0 0,.slice none 0 0] 30)).alloc (.cells #[.slice none 0 0,.slice none 0 0,.slice none 0 0,.slice none 0 0,.slice none 0 0] 30)) w2:=by exact bel_
   have hX2:=Blk.below (((Blk.newAt rfl).alloc _).alloc _) hBB (show w.heap.size<_ by omega);have hR2:=Blk.below ((Blk.newAt (by simp)).alloc _) hBB (show w.heap.size+1<_ by omega);have hZ2:=Blk.below (Blk.newAt (by simp)) hBB (show w.heap.size+1+1<_ by omega);have hl1:∀k,zl (.slice An1 D.fn.length cn1) (.slice Al1 D.fl.length cl1) k→w.heap.size+1+1+1≤k∧k<w1.heap.size:=fun k hk=>by have:=ho1.lt k hk;simp at this;omega
   have hl2:=ho2.lt;have z1:¬zl (.slice An1 D.fn.length cn1) (.slice Al1 D.fl.length cl1) (w.heap.size+1+1):=fun hk=>by have:=(hl1 _ hk).1;omega
   have z2:¬zl (.slice An2 D.nn.length cn2) (.slice Al2 D.nl.length cl2) (w.heap.size+1+1):=fun hk=>by have:=(hl2 _ hk).1;omega
   have n0:w.heap.size≠w.heap.size+1+1:=by omega
   have n1:w.heap.size+1≠w.heap.size+1+1:=by omega
   have ho1':=ho1.kept hb2
   exact⟨_,rfl,vz (((((hX2.far (p:=⟨w.heap.size+1+1,0,none⟩) n0 _).far (p:=⟨w.heap.size+1+1,1,none⟩) n0 _).far (p:=⟨w.heap.size+1+1,2,none⟩) n0 _).far (p:=⟨w.heap.size+1+1,3,none⟩) n0 _).far (p:=⟨w.heap.size+1+1,4,none⟩) n0 _)
    (((((hR2.far (p:=⟨w.heap.size+1+1,0,none⟩) n1 _).far (p:=⟨w.heap.size+1+1,1,none⟩) n1 _).far (p:=⟨w.heap.size+1+1,2,none⟩) n1 _).far (p:=⟨w.heap.size+1+1,3,none⟩) n1 _).far (p:=⟨w.heap.size+1+1,4,none⟩) n1 _)
    (((((hZ2.set_ 0 _).set_ 1 _).set_ 2 _).set_ 3 _).set_ 4 _)
    (((((ho1'.setOff (p:=⟨w.heap.size+1+1,0,none⟩) z1 _).setOff (p:=⟨w.heap.size+1+1,1,none⟩) z1 _).setOff (p:=⟨w.heap.size+1+1,2,none⟩) z1 _).setOff (p:=⟨w.heap.size+1+1,3,none⟩) z1 _).setOff (p:=⟨w.heap.size+1+1,4,none⟩) z1 _)
    (((((ho2.setOff (p:=⟨w.heap.size+1+1,0,none⟩) z2 _).setOff (p:=⟨w.heap.size+1+1,1,none⟩) z2 _).setOff (p:=⟨w.heap.size+1+1,2,none⟩) z2 _).setOff (p:=⟨w.heap.size+1+1,3,none⟩) z2 _).setOff (p:=⟨w.heap.size+1+1,4,none⟩) z2 _)
    (fun k hk=>(hl1 k hk).2) (by simp) (by omega) z1 z2 (by omega) (by exact bel_)⟩
 case rest=>
  obtain⟨Z,rfl,HS0⟩:=hcut;have HS:=Lib.hid HS0;clear HS0;obtain⟨A0,c0,A1,c1,A2,c2,A3,c3,A4,c4,fs0,hO0,hX0,hR0,hZ0,hZl,hZn,hbw0⟩:=HS.out;obtain⟨x_0,x_1,x_2,x_3,x_4⟩:=hX0.c5;have hX0l:=hX0.lt;clear hO0 hR0 hZ0 hZn
  go_wp2_with fail
  go_loopw [4] (fun i wr=>∃k:Nat,k≤D.ss.length∧i= .int .i64 k∧Hid (CpSt w D v0 v1 v2 v3 (.slice A D.ss.length c) Z k wr)) (fun i _=>D.ss.length -(intOf i).toNat)
  case atStart=>exact⟨0,Nat.zero_le _,rfl,HS⟩
  case round=>
   obtain⟨k,hk,rfl,HT⟩:=hrel;clear HS hX0 x_0 x_1 x_2 x_3 x_4 hX0l hbw0;clear A0 c0 A1 c1 A2 c2 A3 c3 A4 c4 fs0;obtain⟨A0,c0,A1,c1,A2,c2,A3,c3,A4,c4,fs,hO,hX,hR,hZ,hZl,hZn,hbl⟩:=HT.out;clear HT
   have hfl:fs.length=k:=by
    have:=congrArg List.length hO.map;simp at this
    omega
   subst hfl;have hsz:=hbl.size;have hZlt:=hZ.lt;have hXlt:=hX.lt;obtain⟨x_0,x_1,x_2,x_3,x_4⟩:=hX.c5
   by_cases hlt:fs.length<D.ss.length
   ·obtain⟨b,off,rfl,hb,hcl⟩:=hcell (by omega)
    obtain⟨k0,k1,k2,vn,vl,k3,k4,hn,hl⟩:=hcl fs.length hlt;obtain⟨hw1,hw2⟩:=HLE.out.ws fs.length hlt;obtain⟨Av,cv,ev,_⟩:=hn.form;obtain⟨Au,cu,eu,_⟩:=hl.form;subst ev eu;have q0:=(hbl.cell (p:=⟨b,off+fs.length*5,none⟩) hb).trans k0;have q1:=(hbl.cell (p:=⟨b,off+fs.length*5+1,none⟩) hb).trans k1;have q2:=(hbl.cell (p:=⟨b,off+fs.length*5+2,none⟩) hb).trans k2;have q3:=(hbl.cell (p:=⟨b,off+fs.length*5+3,none⟩) hb).trans k3;have q4:=(hbl.cell (p:=⟨b,off+fs.length*5+4,none⟩) hb).trans k4;have hn':=Lib.hid (hn.below hbl);have hl':=Lib.hid (hl.below hbl);have hsk:Hid (D.ss.take (fs.length+1)=D.ss.take fs.length++[D.ss[fs.length]]):=Lib.hid (List.take_succ_eq_append_getElem hlt);generalize D.ss[fs.length]=s at*;clear k0 k1 k2 k3 k4 hcl hcell hn hl;have HO:=Lib.hid hO;have HX:=Lib.hid hX;have HR:=Lib.hid hR;have HZ:=Lib.hid hZ;have HZN:=Lib.hid hZn;clear hO hX hR hZ hZn
    go_wp2_with fail
    obtain⟨w2,hw2'⟩:∃w2,w2=wr.alloc (.cells #[.int .i64 s.k,.int .i64 s.a,.int .i64 s.b,.slice Av s.ns.length cv,.slice Au s.ls.length cu] 113):=⟨_,rfl⟩;rw[←hw2'];have hbr2:Below wr.heap.size wr w2:=hw2'▸(Below.refl _ _).alloc (Nat.le_refl _) _;have hS2:Blk w2 wr.heap.size 113 #[.int .i64 s.k,.int .i64 s.a,.int .i64 s.b,.slice Av s.ns.length cv,.slice Au s.ls.length cu]:=hw2'▸Blk.newAt rfl;clear hw2' q0 q1 q2 q3 q4 x_0 x_1 x_2 x_3 x_4;have hS2l:=hS2.lt;refine(qg _ _ s.ns s.ls _ (hn'.out.below hbr2) (hl'.out.below hbr2) hw1 hw2).mono ?_
    rintro e w3 ⟨An,cn,Al,cl,rfl,ho3,hb3⟩;have hbr3:Below wr.heap.size wr w3:=hbr2.trans (hb3.mono hbr2.size);have hS3:=hS2.below hb3 hS2l;have hO3:=HO.out.kept hbr3;have hltO:=HO.out.lt;have hX3:=HX.out.below hbr3 hXlt;have hR3:=HR.out.below hbr3 HR.out.lt;have hZ3:=HZ.out.below hbr3 hZlt;have hsz3:=hbr3.size;have hbw3:=hbl.trans (hbr3.mono hsz);have hbase:w.heap.size+1+1≤wr.heap.size:=by omega
    have ho3m:=ho3.mono (show w.heap.size+1+1≤w2.heap.size from Nat.le_trans hbase hbr2.size);have hlt3:∀b,zl (.slice An s.ns.length cn) (.slice Al s.ls.length cl) b→wr.heap.size<b:=fun b hb=>by have:=(ho3.lt b hb).1;omega
    have hS3l:=hS3.lt;have hnG:¬qw (.slice A0 D.fn.length c0) (.slice A1 D.fl.length c1) (.slice A2 D.nn.length c2) (.slice A3 D.nl.length c3) (.slice A4 fs.length c4) fs wr.heap.size:=fun hb=>by have:=(hltO _ hb).2;omega
    have hnW:¬zl (.slice An s.ns.length cn) (.slice Al s.ls.length cl) wr.heap.size:=fun hb=>by have:=hlt3 _ hb;omega
    have hnZ:¬zl (.slice An s.ns.length cn) (.slice Al s.ls.length cl) Z:=fun hb=>by have:=hlt3 _ hb;omega
    have hHN:Hid (∀b,zl (.slice An s.ns.length cn) (.slice Al s.ls.length cl) b→¬qw (.slice A0 D.fn.length c0) (.slice A1 D.fl.length c1) (.slice A2 D.nn.length c2) (.slice A3 D.nl.length c3) (.slice A4 fs.length c4) fs b):=Lib.hid (fun b hb hb'=>by have:=hlt3 b hb;have:=(hltO b hb').2;omega);have hHlt:Hid (∀b,qw (.slice A0 D.fn.length c0) (.slice A1 D.fl.length c1) (.slice A2 D.nn.length c2) (.slice A3 D.nl.length c3) (.slice A4 fs.length c4) fs b→w.heap.size+1+1≤b):=Lib.hid (fun b hb=>(hltO b hb).1);have hHnZ:=Lib.hid hnZ;have hZG:Z≠wr.heap.size:=by omega
    have hXG:w.heap.size≠wr.heap.size:=by omega
    have hRG:w.heap.size+1≠wr.heap.size:=by omega
    obtain⟨w4,hw4⟩:∃w4,w4=(w3.setCell ⟨wr.heap.size,3,none⟩ (.slice An s.ns.length cn)).setCell ⟨wr.heap.size,4,none⟩ (.slice Al s.ls.length cl):=⟨_,rfl⟩;have hO4:OwnD (w.heap.size+1+1) w4 _ _ _ _ _ _ fs:=hw4▸(hO3.setFar (p:=⟨wr.heap.size,3,none⟩) hnG _).setFar (p:=⟨wr.heap.size,4,none⟩) hnG _;have ho4:OwnW (w.heap.size+1+1) w4 _ _ s.ns s.ls:=hw4▸(ho3m.setOff (p:=⟨wr.heap.size,3,none⟩) hnW _).setOff (p:=⟨wr.heap.size,4,none⟩) hnW _;have hX4:Blk w4 w.heap.size _ _:=hw4▸(hX3.far (p:=⟨wr.heap.size,3,none⟩) hXG _).far (p:=⟨wr.heap.size,4,none⟩) hXG _;have hR4:Blk w4 (w.heap.size+1) _ _:=hw4▸(hR3.far (p:=⟨wr.heap.size,3,none⟩) hRG _).far (p:=⟨wr.heap.size,4,none⟩) hRG _;have hZ4:Blk w4 Z _ _:=hw4▸(hZ3.far (p:=⟨wr.heap.size,3,none⟩) hZG _).far (p:=⟨wr.heap.size,4,none⟩) hZG _;have hbw4:Below w.heap.size w w4:=hw4▸(hbw3.setCell (p:=⟨wr.heap.size,3,none⟩) (show w.heap.size≤wr.heap.size from hsz) _).setCell (p:=⟨wr.heap.size,4,none⟩) (show w.heap.size≤wr.heap.size from hsz) _;have hsz4:w4.heap.size=w3.heap.size:=by rw[hw4];simp
    have hHO4:=Lib.hid (hO4.alloc (.cells #[.int .i64 s.k,.int .i64 s.a,.int .i64 s.b,.slice An s.ns.length cn,.slice Al s.ls.length cl] 113));have hHo4:=Lib.hid (ho4.alloc' (.cells #[.int .i64 s.k,.int .i64 s.a,.int .i64 s.b,.slice An s.ns.length cn,.slice Al s.ls.length cl] 113));have hHX4:=Lib.hid (hX4.alloc (.cells #[.int .i64 s.k,.int .i64 s.a,.int .i64 s.b,.slice An s.ns.length cn,.slice Al s.ls.length cl] 113));have hHR4:=Lib.hid (hR4.alloc (.cells #[.int .i64 s.k,.int .i64 s.a,.int .i64 s.b,.slice An s.ns.length cn,.slice Al s.ls.length cl] 113));have hHZ4:=Lib.hid (hZ4.alloc (.cells #[.int .i64 s.k,.int .i64 s.a,.int .i64 s.b,.slice An s.ns.length cn,.slice Al s.ls.length cl] 113));have hsE:(w4.alloc (.cells #[.int .i64 s.k,.int .i64 s.a,.int .i64 s.b,.slice An s.ns.length cn,.slice Al s.ls.length cl] 113)).heap.size =w3.heap.size+1:=by simp[hsz4]
    have hfs20:fs.length≤1048576:=by have:=HLE.out.ss;omega
    have hHL4:Hid (∀(j:Nat) (u:Value),(sfc (s,.slice An s.ns.length cn,.slice Al s.ls.length cl))[j]? =some u→(w4.alloc (.cells #[.int .i64 s.k,.int .i64 s.a,.int .i64 s.b,.slice An s.ns.length cn,.slice Al s.ls.length cl] 113)).cell? ((⟨w3.heap.size,0,none⟩:Addr).add j)=some u):=Lib.hid (z0H hsz4.symm rfl);have hHB4:=Lib.hid (hbw4.alloc hbw4.size (.cells #[.int .i64 s.k,.int .i64 s.a,.int .i64 s.b,.slice An s.ns.length cn,.slice Al s.ls.length cl] 113));have hb20:w.heap.size+1+1≤(w4.alloc (.cells #[.int .i64 s.k,.int .i64 s.a,.int .i64 s.b,.slice An s.ns.length cn,.slice Al s.ls.length cl] 113)).heap.size :=by simp;omega
    obtain⟨s_0,s_1,s_2,s_3,s_4,s_f0,s_f1,s_f2,s_f3,s_f4⟩:=hS3.b5;obtain⟨z_0,z_1,z_2,z_3,z_4⟩:=hZ3.c5;have hz3l:=hZ3.lt;clear hb3 hS2 hn' hl' HO HX HR HZ hbl ho3 ho3m hO3 hX3 hR3 hZ3 hbr3 hbr2 hbw3 hS2l hO4 ho4 hX4 hR4 hZ4 hltO hlt3 hnG hnW hnZ;clear hsz4;subst hw4
    go_wp2_with (at_builtin;refine yv rfl _ _ _ rfl (w.heap.size+1+1) 113 i0 Tryz.underlying28 hi iz0 iz1 iz2 (.slice A4 fs.length c4) fs (s,.slice An s.ns.length cn,.slice Al s.ls.length cl) ⟨w3.heap.size,0,none⟩ 1 rfl rfl hHO4.out.ss.row hHL4.out (z2f _ _ _ _ _ _ _ rfl rfl) hfs20 hb20 ?_)
    intro A5 c5 w5 hr5 hg5 ha5;have hO5:=hHO4.out.snoc (f:=(s,.slice An s.ns.length cn,.slice Al s.ls.length cl)) (by rw[List.flatMap_append];simpa using hr5) hg5 (by rw[hsE];exact ha5) hHo4.out hHN.out;have hX5:=hHX4.out.grownR hg5 (fun k hk e=>by have:=hHlt.out k (.inr (.inr (.inl hk)));omega);have hR5:=hHR4.out.grownR hg5 (fun k hk e=>by have:=hHlt.out k (.inr (.inr (.inl hk)));omega);have hZ5:=hHZ4.out.grownR hg5 (fun k hk e=>HZN.out (e▸ .inr (.inr (.inl hk))));have hb5:=hHB4.out.grown hg5 hHB4.out.size (fun k hk=>by have:=hHlt.out k (.inr (.inr (.inl hk)));omega)
    have hZn5:¬qw (.slice A0 D.fn.length c0) (.slice A1 D.fl.length c1) (.slice A2 D.nn.length c2) (.slice A3 D.nl.length c3) (.slice A5 (fs.length+1) c5) (fs++[(s,.slice An s.ns.length cn,.slice Al s.ls.length cl)]) Z:=by
     intro hz
     rcases Zs ha5 hz with h1|h1|h1
     ·exact HZN.out h1
     ·omega
     ·exact hHnZ.out h1
    have hO6:=hO5.setFar (p:=⟨Z,4,none⟩) hZn5 (.slice A5 (fs.length+1) c5)
    have hO7:OwnD (w.heap.size+1+1) (w5.setCell ⟨Z,4,none⟩ (.slice A5 (fs.length+1) c5)) (.slice A0 D.fn.length c0) (.slice A1 D.fl.length c1) (.slice A2 D.nn.length c2) (.slice A3 D.nl.length c3) (.slice A5 (fs.length+1) c5) ⟨D.fn,D.fl,D.nn,D.nl,D.ss.take (fs.length+1)⟩ (fs++[(s,.slice An s.ns.length cn,.slice Al s.ls.length cl)]):=by
     rw[hsk.out];exact hO6
    have HFIN:Hid (CpSt w D v0 v1 v2 v3 (.slice (some ⟨b,off,none⟩) D.ss.length c) Z (fs.length+1) (w5.setCell ⟨Z,4,none⟩ (.slice A5 (fs.length+1) c5))):=
     Lib.hid ⟨A0,c0,A1,c1,A2,c2,A3,c3,A5,c5,_,hO7,hX5.far (p:=⟨Z,4,none⟩) (by show _≠Z;omega) _,hR5.far (p:=⟨Z,4,none⟩) (by show _≠Z;omega) _,hZ5.set_ 4 _,hZl,hZn5,hb5.setCell (p:=⟨Z,4,none⟩) (by show w.heap.size≤Z;omega) _⟩
    obtain⟨y_0,y_1,y_2,y_3,y_4,y_f0,y_f1,y_f2,y_f3,y_f4⟩:=hZ5.b5;clear hO5 hO6 hO7 hX5 hR5 hZ5 hb5 hZn5 hr5 hg5 ha5 hHO4 hHo4 hHX4 hHR4 hHZ4 hHL4 hHB4 hHN hHlt hHnZ HZN hsk s_0 s_1 s_2 s_3 s_4 s_f0 s_f1 s_f2 s_f3 s_f4 z_0 z_1 z_2 z_3 z_4;go_wp2;go_roundw
    case rel=>exact⟨fs.length+1,by omega,by go_num,HFIN⟩
    case measure=>simp[intOf];omega
   ·have hkk:fs.length=D.ss.length:=by omega
    have hO':OwnD (w.heap.size+1+1) wr (.slice A0 D.fn.length c0) (.slice A1 D.fl.length c1) (.slice A2 D.nn.length c2) (.slice A3 D.nl.length c3) (.slice A4 D.ss.length c4) D fs:=by
     have:=hO;rw[hkk,List.take_length] at this;exact this
    rw[hkk] at hZ;obtain⟨z_0,z_1,z_2,z_3,z_4⟩:=hZ.c5;obtain⟨r_0,r_1,r_2,r_3,r_4,r_f0,r_f1,r_f2,r_f3,r_f4⟩:=hR.b5;have hRlt:=hR.lt;have hlo:∀k,qw (.slice A0 D.fn.length c0) (.slice A1 D.fl.length c1) (.slice A2 D.nn.length c2) (.slice A3 D.nl.length c3) (.slice A4 D.ss.length c4) fs k→w.heap.size+1<k:=fun k hk=>(hO'.lt k hk).1
    have step:∀(W:World) (j:Nat) (u:Value),OwnD w.heap.size W (.slice A0 D.fn.length c0) (.slice A1 D.fl.length c1) (.slice A2 D.nn.length c2) (.slice A3 D.nl.length c3) (.slice A4 D.ss.length c4) D fs→OwnD w.heap.size (W.setCell ⟨w.heap.size+1,j,none⟩ u) (.slice A0 D.fn.length c0) (.slice A1 D.fl.length c1) (.slice A2 D.nn.length c2) (.slice A3 D.nl.length c3) (.slice A4 D.ss.length c4) D fs:=
     fun W j u hW=>hW.setFar (p:=⟨w.heap.size+1,j,none⟩) (fun hk=>by have h2:w.heap.size+1<w.heap.size+1:=hlo _ hk;omega) u
    have HH:∀u0 u1 u2 u3 u4,Hid (OwnD w.heap.size (((((wr.setCell ⟨w.heap.size+1,0,none⟩ u0).setCell ⟨w.heap.size+1,1,none⟩ u1).setCell ⟨w.heap.size+1,2,none⟩ u2).setCell ⟨w.heap.size+1,3,none⟩ u3).setCell ⟨w.heap.size+1,4,none⟩ u4) (.slice A0 D.fn.length c0) (.slice A1 D.fl.length c1) (.slice A2 D.nn.length c2) (.slice A3 D.nl.length c3) (.slice A4 D.ss.length c4) D fs):=fun u0 u1 u2 u3 u4=>
     Lib.hid (step _ _ _ (step _ _ _ (step _ _ _ (step _ _ _ (step _ _ _ (hO'.mono (by omega)))))))
    have HB:∀u0 u1 u2 u3 u4,Hid (Below w.heap.size w (((((wr.setCell ⟨w.heap.size+1,0,none⟩ u0).setCell ⟨w.heap.size+1,1,none⟩ u1).setCell ⟨w.heap.size+1,2,none⟩ u2).setCell ⟨w.heap.size+1,3,none⟩ u3).setCell ⟨w.heap.size+1,4,none⟩ u4)):=fun u0 u1 u2 u3 u4=>Lib.hid
     (((((hbl.setCell (p:=⟨w.heap.size+1,0,none⟩) sz_ u0).setCell (p:=⟨w.heap.size+1,1,none⟩) sz_ u1).setCell (p:=⟨w.heap.size+1,2,none⟩) sz_ u2).setCell (p:=⟨w.heap.size+1,3,none⟩) sz_ u3).setCell (p:=⟨w.heap.size+1,4,none⟩) sz_ u4)
    have hcx:¬((fs.length:Int)<(D.ss.length:Int)):=by omega
    clear hO hO' hlo step hcell hbl hX hZ hR hZn;go_wp2;exact bodyPost_ret (v:= .agg #[.slice A0 D.fn.length c0,.slice A1 D.fl.length c1,.slice A2 D.nn.length c2,.slice A3 D.nl.length c3,.slice A4 D.ss.length c4]) (by simp[results,Tryz.results135,go_sem,r_0,r_1,r_2,r_3,r_4,hRlt]) rfl ⟨_,_,_,_,_,_,_,_,_,_,fs,rfl,(HH _ _ _ _ _).out,(HB _ _ _ _ _).out⟩
theorem z1j (v0 v1 v2 v3 v4:Value) (D:Dr) (w:World) (h:RD w v0 v1 v2 v3 v4 D) (hle:DrLe D):
  Calls Tryz.prog 80 #[.agg #[v0,v1,v2,v3,v4]] w (RetD D w):=by
 have HLE:=Lib.hid hle;have hfn:=h.fn;have hfl:=h.fl;have hnn:=h.nn;have hnl:=h.nl;obtain⟨A,c,e4,hc,hm,hcell⟩:=h.ss;subst e4;unfold maxLen at hm;clear hle h;obtain⟨i0,hi,iz0,iz1,iz2⟩:=info_parts ZE;have hlt2:w.heap.size<w.heap.size+1+1:=by omega
 have hlt3:w.heap.size<w.heap.size+1+1+1:=by omega
 have hne2:¬w.heap.size+1+1=w.heap.size:=by omega
 go_enter Tryz.func80,Tryz.ntmps80
 go_wp2_with fail
 go_cut [3] (fun z wx=>∃Z,z= .pointer (some ⟨Z,0,none⟩)∧CpSt w D v0 v1 v2 v3 (.slice A D.ss.length c) Z 0 wx)
 case first=>
  go_region_held3 (fun w'=>w'.cell? ⟨w.heap.size,0,none⟩=some v0∧w'.cell? ⟨w.heap.size,1,none⟩=some v1∧w'.cell? ⟨w.heap.size,2,none⟩=some v2∧w'.cell? ⟨w.heap.size,3,none⟩=some v3)
   (go_keep)
   (first|(go_at_call 81;refine Calls.mono (qf _ _ D.fn D.fl _ ?a1 ?a2 HLE.out.fn HLE.out.fl) ?_;(case a1=>exact hfn.below (by exact bel_));(case a2=>exact hfl.below (by exact bel_));rintro e w1 ⟨An1,cn1,Al1,cl1,rfl,ho1,hb1⟩;(first|(with_reducible have hcf1:=z8 hb1)|have hcf1:=bcell hb1);obtain⟨hc1,hf1⟩:=hcf1;have hz1:=hb1.size;(try simp at hz1);(try have hp1_0:=p0_ w w1);(try have hp1_1:=p1_ w w1);(try have hp1_2:=p2_ w w1);(try have hp1_3:=p3_ w w1);(have hq1:w.heap.size<w1.heap.size+1:=by omega);(have hq2:¬w1.heap.size=w.heap.size:=by omega))|(go_at_call 81;refine Calls.mono (qf _ _ D.nn D.nl _ ?a3 ?a4 HLE.out.nn HLE.out.nl) ?_;(case a3=>exact hnn.below (by exact bel_));(case a4=>exact hnl.below (by exact bel_));rintro e w2 ⟨An2,cn2,Al2,cl2,rfl,ho2,hb2⟩;(first|(with_reducible have hcf2:=z8 hb2)|have hcf2:=bcell hb2);obtain⟨hc2,hf2⟩:=hcf2;have hz2:=hb2.size;(try simp at hz2);(try have hp2_0:=p0_ w w2);(try have hp2_1:=p1_ w w2);(try have hp2_2:=p2_ w w2);(try have hp2_3:=p3_ w w2);(have hq3:¬w2.heap.size=w.heap.size:=by omega)))
  all_goals go_wp2
  all_goals go_meet
  ·have hBB:Below (w.heap.size+1+1) ((w.alloc (.cells #[v0,v1,v2,v3,.slice A D.ss.length c] 30)).alloc (.cells #[.slice none 0 0,.slice none 0 0,.slice none 0 0,.slice none 0 0,.slice none 0 0] 30)) w2:=by exact bel_
   have hX2:=Blk.below ((Blk.newAt rfl).alloc _) hBB (show w.heap.size<_ by omega);have hR2:=Blk.below (Blk.newAt (by simp)) hBB (show w.heap.size+1<_ by omega);have hl1:∀k,zl (.slice An1 D.fn.length cn1) (.slice Al1 D.fl.length cl1) k→w.heap.size+1+1≤k∧k<w1.heap.size:=fun k hk=>by have:=ho1.lt k hk;simp at this;omega
   have hl2:=ho2.lt;exact⟨_,rfl,vz (hX2.alloc _) (hR2.alloc _) (Blk.newAt rfl) ((ho1.kept hb2).alloc' _) (ho2.alloc' _) (fun k hk=>(hl1 k hk).2) (by simp) (by omega) (fun hk=>by have:=(hl1 _ hk).2;omega) (fun hk=>by have:=(hl2 _ hk).2;omega) (by omega) (by exact bel_)⟩
  ·have hBB:Below (w.heap.size+1+1) ((w.alloc (.cells #[v0,v1,v2,v3,.slice A D.ss.length c] 30)).alloc (.cells #[.slice none 0 0,.slice none 0 0,.slice none 0 0,.slice none 0 0,.slice none 0 0] 30)) w2:=by exact bel_
   have hX2:=Blk.below ((Blk.newAt rfl).alloc _) hBB (show w.heap.size<_ by omega);have hR2:=Blk.below (Blk.newAt (by simp)) hBB (show w.heap.size+1<_ by omega);have hZ2:=Blk.below (Blk.newAt rfl) hb2 (show w1.heap.size<_ by simp);have hl1:∀k,zl (.slice An1 D.fn.length cn1) (.slice Al1 D.fl.length cl1) k→w.heap.size+1+1≤k∧k<w1.heap.size:=fun k hk=>by have:=ho1.lt k hk;simp at this;omega
   have hl2:∀k,zl (.slice An2 D.nn.length cn2) (.slice Al2 D.nl.length cl2) k→w1.heap.size+1≤k∧k<w2.heap.size:=fun k hk=>by have:=ho2.lt k hk;simp at this;omega
   have z1:¬zl (.slice An1 D.fn.length cn1) (.slice Al1 D.fl.length cl1) w1.heap.size:=fun hk=>by have:=(hl1 _ hk).2;omega
   have z2:¬zl (.slice An2 D.nn.length cn2) (.slice Al2 D.nl.length cl2) w1.heap.size:=fun hk=>by have:=(hl2 _ hk).1;omega
   have n0:w.heap.size≠w1.heap.size:=by omega
   have n1:w.heap.size+1≠w1.heap.size:=by omega
   have ho1':=(ho1.alloc' _).kept hb2
   exact⟨_,rfl,vz (((((hX2.far (p:=⟨w1.heap.size,0,none⟩) n0 _).far (p:=⟨w1.heap.size,1,none⟩) n0 _).far (p:=⟨w1.heap.size,2,none⟩) n0 _).far (p:=⟨w1.heap.size,3,none⟩) n0 _).far (p:=⟨w1.heap.size,4,none⟩) n0 _)
    (((((hR2.far (p:=⟨w1.heap.size,0,none⟩) n1 _).far (p:=⟨w1.heap.size,1,none⟩) n1 _).far (p:=⟨w1.heap.size,2,none⟩) n1 _).far (p:=⟨w1.heap.size,3,none⟩) n1 _).far (p:=⟨w1.heap.size,4,none⟩) n1 _)
    (((((hZ2.set_ 0 _).set_ 1 _).set_ 2 _).set_ 3 _).set_ 4 _)
    (((((ho1'.setOff (p:=⟨w1.heap.size,0,none⟩) z1 _).setOff (p:=⟨w1.heap.size,1,none⟩) z1 _).setOff (p:=⟨w1.heap.size,2,none⟩) z1 _).setOff (p:=⟨w1.heap.size,3,none⟩) z1 _).setOff (p:=⟨w1.heap.size,4,none⟩) z1 _)
    (((((ho2.setOff (p:=⟨w1.heap.size,0,none⟩) z2 _).setOff (p:=⟨w1.heap.size,1,none⟩) z2 _).setOff (p:=⟨w1.heap.size,2,none⟩) z2 _).setOff (p:=⟨w1.heap.size,3,none⟩) z2 _).setOff (p:=⟨w1.heap.size,4,none⟩) z2 _)
    (fun k hk=>by have:=(hl1 k hk).2;simp;omega) (by simp) (by simp;omega) z1 z2 (by omega) (by exact bel_)⟩
  ·have hBB:Below (w.heap.size+1+1+1) (((w.alloc (.cells #[v0,v1,v2,v3,.slice A D.ss.length c] 30)).alloc (.cells #[.slice none 0 0,.slice none 0 0,.slice none 0 0,.slice none 0 0,.slice none 0 0] 30)).alloc (.cells #[.slice none 0 0,.slice none 0 0,.slice none 0 0,.slice none 0 0,.slice none 0 0] 30)) w2:=by exact bel_
   have hX2:=Blk.below (((Blk.newAt rfl).alloc _).alloc _) hBB (show w.heap.size<_ by omega);have hR2:=Blk.below ((Blk.newAt (by simp)).alloc _) hBB (show w.heap.size+1<_ by omega);have hZ2:=Blk.below (Blk.newAt (by simp)) hBB (show w.heap.size+1+1<_ by omega);have hl1:∀k,zl (.slice An1 D.fn.length cn1) (.slice Al1 D.fl.length cl1) k→w.heap.size+1+1+1≤k∧k<w1.heap.size:=fun k hk=>by have:=ho1.lt k hk;simp at this;omega
   have hl2:=ho2.lt;have z1:¬zl (.slice An1 D.fn.length cn1) (.slice Al1 D.fl.length cl1) (w.heap.size+1+1):=fun hk=>by have:=(hl1 _ hk).1;omega
   have z2:¬zl (.slice An2 D.nn.length cn2) (.slice Al2 D.nl.length cl2) (w.heap.size+1+1):=fun hk=>by have:=(hl2 _ hk).1;omega
   have n0:w.heap.size≠w.heap.size+1+1:=by omega
   have n1:w.heap.size+1≠w.heap.size+1+1:=by omega
   have ho1':=ho1.kept hb2
   exact⟨_,rfl,vz (((((hX2.far (p:=⟨w.heap.size+1+1,0,none⟩) n0 _).far (p:=⟨w.heap.size+1+1,1,none⟩) n0 _).far (p:=⟨w.heap.size+1+1,2,none⟩) n0 _).far (p:=⟨w.heap.size+1+1,3,none⟩) n0 _).far (p:=⟨w.heap.size+1+1,4,none⟩) n0 _)
    (((((hR2.far (p:=⟨w.heap.size+1+1,0,none⟩) n1 _).far (p:=⟨w.heap.size+1+1,1,none⟩) n1 _).far (p:=⟨w.heap.size+1+1,2,none⟩) n1 _).far (p:=⟨w.heap.size+1+1,3,none⟩) n1 _).far (p:=⟨w.heap.size+1+1,4,none⟩) n1 _)
    (((((hZ2.set_ 0 _).set_ 1 _).set_ 2 _).set_ 3 _).set_ 4 _)
    (((((ho1'.setOff (p:=⟨w.heap.size+1+1,0,none⟩) z1 _).setOff (p:=⟨w.heap.size+1+1,1,none⟩) z1 _).setOff (p:=⟨w.heap.size+1+1,2,none⟩) z1 _).setOff (p:=⟨w.heap.size+1+1,3,none⟩) z1 _).setOff (p:=⟨w.heap.size+1+1,4,none⟩) z1 _)
    (((((ho2.setOff (p:=⟨w.heap.size+1+1,0,none⟩) z2 _).setOff (p:=⟨w.heap.size+1+1,1,none⟩) z2 _).setOff (p:=⟨w.heap.size+1+1,2,none⟩) z2 _).setOff (p:=⟨w.heap.size+1+1,3,none⟩) z2 _).setOff (p:=⟨w.heap.size+1+1,4,none⟩) z2 _)
    (fun k hk=>(hl1 k hk).2) (by simp) (by omega) z1 z2 (by omega) (by exact bel_)⟩
 case rest=>
  obtain⟨Z,rfl,HS0⟩:=hcut;have HS:=Lib.hid HS0;clear HS0;obtain⟨A0,c0,A1,c1,A2,c2,A3,c3,A4,c4,fs0,hO0,hX0,hR0,hZ0,hZl,hZn,hbw0⟩:=HS.out;obtain⟨x_0,x_1,x_2,x_3,x_4⟩:=hX0.c5;have hX0l:=hX0.lt;clear hO0 hR0 hZ0 hZn
  go_wp2_with fail
  go_loopw [16] (fun i wr=>∃k:Nat,k≤D.ss.length∧i= .int .i64 k∧Hid (CpSt w D v0 v1 v2 v3 (.slice A D.ss.length c) Z k wr)) (fun i _=>D.ss.length -(intOf i).toNat)
  case atStart=>exact⟨0,Nat.zero_le _,rfl,HS⟩
  case round=>
   obtain⟨k,hk,rfl,HT⟩:=hrel;clear HS hX0 x_0 x_1 x_2 x_3 x_4 hX0l hbw0;clear A0 c0 A1 c1 A2 c2 A3 c3 A4 c4 fs0;obtain⟨A0,c0,A1,c1,A2,c2,A3,c3,A4,c4,fs,hO,hX,hR,hZ,hZl,hZn,hbl⟩:=HT.out;clear HT
   have hfl:fs.length=k:=by
    have:=congrArg List.length hO.map;simp at this
    omega
   subst hfl;have hsz:=hbl.size;have hZlt:=hZ.lt;have hXlt:=hX.lt;obtain⟨x_0,x_1,x_2,x_3,x_4⟩:=hX.c5
   by_cases hlt:fs.length<D.ss.length
   ·obtain⟨b,off,rfl,hb,hcl⟩:=hcell (by omega)
    obtain⟨k0,k1,k2,vn,vl,k3,k4,hn,hl⟩:=hcl fs.length hlt;obtain⟨hw1,hw2⟩:=HLE.out.ws fs.length hlt;obtain⟨Av,cv,ev,_⟩:=hn.form;obtain⟨Au,cu,eu,_⟩:=hl.form;subst ev eu;have q0:=(hbl.cell (p:=⟨b,off+fs.length*5,none⟩) hb).trans k0;have q1:=(hbl.cell (p:=⟨b,off+fs.length*5+1,none⟩) hb).trans k1;have q2:=(hbl.cell (p:=⟨b,off+fs.length*5+2,none⟩) hb).trans k2;have q3:=(hbl.cell (p:=⟨b,off+fs.length*5+3,none⟩) hb).trans k3;have q4:=(hbl.cell (p:=⟨b,off+fs.length*5+4,none⟩) hb).trans k4;have hn':=Lib.hid (hn.below hbl);have hl':=Lib.hid (hl.below hbl);have hsk:Hid (D.ss.take (fs.length+1)=D.ss.take fs.length++[D.ss[fs.length]]):=Lib.hid (List.take_succ_eq_append_getElem hlt);generalize D.ss[fs.length]=s at*;clear k0 k1 k2 k3 k4 hcl hcell hn hl;have HO:=Lib.hid hO;have HX:=Lib.hid hX;have HR:=Lib.hid hR;have HZ:=Lib.hid hZ;have HZN:=Lib.hid hZn;clear hO hX hR hZ hZn
    go_wp2_with fail
    obtain⟨w2,hw2'⟩:∃w2,w2=wr.alloc (.cells #[.int .i64 s.k,.int .i64 s.a,.int .i64 s.b,.slice Av s.ns.length cv,.slice Au s.ls.length cu] 113):=⟨_,rfl⟩;rw[←hw2'];have hbr2:Below wr.heap.size wr w2:=hw2'▸(Below.refl _ _).alloc (Nat.le_refl _) _;have hS2:Blk w2 wr.heap.size 113 #[.int .i64 s.k,.int .i64 s.a,.int .i64 s.b,.slice Av s.ns.length cv,.slice Au s.ls.length cu]:=hw2'▸Blk.newAt rfl;clear hw2' q0 q1 q2 q3 q4 x_0 x_1 x_2 x_3 x_4;have hS2l:=hS2.lt;refine(qf _ _ s.ns s.ls _ (hn'.out.below hbr2) (hl'.out.below hbr2) hw1 hw2).mono ?_
    rintro e w3 ⟨An,cn,Al,cl,rfl,ho3,hb3⟩;have hbr3:Below wr.heap.size wr w3:=hbr2.trans (hb3.mono hbr2.size);have hS3:=hS2.below hb3 hS2l;have hO3:=HO.out.kept hbr3;have hltO:=HO.out.lt;have hX3:=HX.out.below hbr3 hXlt;have hR3:=HR.out.below hbr3 HR.out.lt;have hZ3:=HZ.out.below hbr3 hZlt;have hsz3:=hbr3.size;have hbw3:=hbl.trans (hbr3.mono hsz);have hbase:w.heap.size+1+1≤wr.heap.size:=by omega
    have ho3m:=ho3.mono (show w.heap.size+1+1≤w2.heap.size from Nat.le_trans hbase hbr2.size);have hlt3:∀b,zl (.slice An s.ns.length cn) (.slice Al s.ls.length cl) b→wr.heap.size<b:=fun b hb=>by have:=(ho3.lt b hb).1;omega
    have hS3l:=hS3.lt;have hnG:¬qw (.slice A0 D.fn.length c0) (.slice A1 D.fl.length c1) (.slice A2 D.nn.length c2) (.slice A3 D.nl.length c3) (.slice A4 fs.length c4) fs wr.heap.size:=fun hb=>by have:=(hltO _ hb).2;omega
    have hnW:¬zl (.slice An s.ns.length cn) (.slice Al s.ls.length cl) wr.heap.size:=fun hb=>by have:=hlt3 _ hb;omega
    have hnZ:¬zl (.slice An s.ns.length cn) (.slice Al s.ls.length cl) Z:=fun hb=>by have:=hlt3 _ hb;omega
    have hHN:Hid (∀b,zl (.slice An s.ns.length cn) (.slice Al s.ls.length cl) b→¬qw (.slice A0 D.fn.length c0) (.slice A1 D.fl.length c1) (.slice A2 D.nn.length c2) (.slice A3 D.nl.length c3) (.slice A4 fs.length c4) fs b):=Lib.hid (fun b hb hb'=>by have:=hlt3 b hb;have:=(hltO b hb').2;omega);have hHlt:Hid (∀b,qw (.slice A0 D.fn.length c0) (.slice A1 D.fl.length c1) (.slice A2 D.nn.length c2) (.slice A3 D.nl.length c3) (.slice A4 fs.length c4) fs b→w.heap.size+1+1≤b):=Lib.hid (fun b hb=>(hltO b hb).1);have hHnZ:=Lib.hid hnZ;have hZG:Z≠wr.heap.size:=by omega
    have hXG:w.heap.size≠wr.heap.size:=by omega
    have hRG:w.heap.size+1≠wr.heap.size:=by omega
    obtain⟨w4,hw4⟩:∃w4,w4=(w3.setCell ⟨wr.heap.size,3,none⟩ (.slice An s.ns.length cn)).setCell ⟨wr.heap.size,4,none⟩ (.slice Al s.ls.length cl):=⟨_,rfl⟩;have hO4:OwnD (w.heap.size+1+1) w4 _ _ _ _ _ _ fs:=hw4▸(hO3.setFar (p:=⟨wr.heap.size,3,none⟩) hnG _).setFar (p:=⟨wr.heap.size,4,none⟩) hnG _;have ho4:OwnW (w.heap.size+1+1) w4 _ _ s.ns s.ls:=hw4▸(ho3m.setOff (p:=⟨wr.heap.size,3,none⟩) hnW _).setOff (p:=⟨wr.heap.size,4,none⟩) hnW _;have hX4:Blk w4 w.heap.size _ _:=hw4▸(hX3.far (p:=⟨wr.heap.size,3,none⟩) hXG _).far (p:=⟨wr.heap.size,4,none⟩) hXG _;have hR4:Blk w4 (w.heap.size+1) _ _:=hw4▸(hR3.far (p:=⟨wr.heap.size,3,none⟩) hRG _).far (p:=⟨wr.heap.size,4,none⟩) hRG _;have hZ4:Blk w4 Z _ _:=hw4▸(hZ3.far (p:=⟨wr.heap.size,3,none⟩) hZG _).far (p:=⟨wr.heap.size,4,none⟩) hZG _;have hbw4:Below w.heap.size w w4:=hw4▸(hbw3.setCell (p:=⟨wr.heap.size,3,none⟩) (show w.heap.size≤wr.heap.size from hsz) _).setCell (p:=⟨wr.heap.size,4,none⟩) (show w.heap.size≤wr.heap.size from hsz) _;have hsz4:w4.heap.size=w3.heap.size:=by rw[hw4];simp
    have hHO4:=Lib.hid (hO4.alloc (.cells #[.int .i64 s.k,.int .i64 s.a,.int .i64 s.b,.slice An s.ns.length cn,.slice Al s.ls.length cl] 113));have hHo4:=Lib.hid (ho4.alloc' (.cells #[.int .i64 s.k,.int .i64 s.a,.int .i64 s.b,.slice An s.ns.length cn,.slice Al s.ls.length cl] 113));have hHX4:=Lib.hid (hX4.alloc (.cells #[.int .i64 s.k,.int .i64 s.a,.int .i64 s.b,.slice An s.ns.length cn,.slice Al s.ls.length cl] 113));have hHR4:=Lib.hid (hR4.alloc (.cells #[.int .i64 s.k,.int .i64 s.a,.int .i64 s.b,.slice An s.ns.length cn,.slice Al s.ls.length cl] 113));have hHZ4:=Lib.hid (hZ4.alloc (.cells #[.int .i64 s.k,.int .i64 s.a,.int .i64 s.b,.slice An s.ns.length cn,.slice Al s.ls.length cl] 113));have hsE:(w4.alloc (.cells #[.int .i64 s.k,.int .i64 s.a,.int .i64 s.b,.slice An s.ns.length cn,.slice Al s.ls.length cl] 113)).heap.size =w3.heap.size+1:=by simp[hsz4]
    have hfs20:fs.length≤1048576:=by have:=HLE.out.ss;omega
    have hHL4:Hid (∀(j:Nat) (u:Value),(sfc (s,.slice An s.ns.length cn,.slice Al s.ls.length cl))[j]? =some u→(w4.alloc (.cells #[.int .i64 s.k,.int .i64 s.a,.int .i64 s.b,.slice An s.ns.length cn,.slice Al s.ls.length cl] 113)).cell? ((⟨w3.heap.size,0,none⟩:Addr).add j)=some u):=Lib.hid (z0H hsz4.symm rfl);have hHB4:=Lib.hid (hbw4.alloc hbw4.size (.cells #[.int .i64 s.k,.int .i64 s.a,.int .i64 s.b,.slice An s.ns.length cn,.slice Al s.ls.length cl] 113));have hb20:w.heap.size+1+1≤(w4.alloc (.cells #[.int .i64 s.k,.int .i64 s.a,.int .i64 s.b,.slice An s.ns.length cn,.slice Al s.ls.length cl] 113)).heap.size :=by simp;omega
    obtain⟨s_0,s_1,s_2,s_3,s_4,s_f0,s_f1,s_f2,s_f3,s_f4⟩:=hS3.b5;obtain⟨z_0,z_1,z_2,z_3,z_4⟩:=hZ3.c5;have hz3l:=hZ3.lt;clear hb3 hS2 hn' hl' HO HX HR HZ hbl ho3 ho3m hO3 hX3 hR3 hZ3 hbr3 hbr2 hbw3 hS2l hO4 ho4 hX4 hR4 hZ4 hltO hlt3 hnG hnW hnZ;clear hsz4;subst hw4
    go_wp2_with (at_builtin;refine yv rfl _ _ _ rfl (w.heap.size+1+1) 113 i0 Tryz.underlying28 hi iz0 iz1 iz2 (.slice A4 fs.length c4) fs (s,.slice An s.ns.length cn,.slice Al s.ls.length cl) ⟨w3.heap.size,0,none⟩ 1 rfl rfl hHO4.out.ss.row hHL4.out (z2f _ _ _ _ _ _ _ rfl rfl) hfs20 hb20 ?_)
    intro A5 c5 w5 hr5 hg5 ha5;have hO5:=hHO4.out.snoc (f:=(s,.slice An s.ns.length cn,.slice Al s.ls.length cl)) (by rw[List.flatMap_append];simpa using hr5) hg5 (by rw[hsE];exact ha5) hHo4.out hHN.out;have hX5:=hHX4.out.grownR hg5 (fun k hk e=>by have:=hHlt.out k (.inr (.inr (.inl hk)));omega);have hR5:=hHR4.out.grownR hg5 (fun k hk e=>by have:=hHlt.out k (.inr (.inr (.inl hk)));omega);have hZ5:=hHZ4.out.grownR hg5 (fun k hk e=>HZN.out (e▸ .inr (.inr (.inl hk))));have hb5:=hHB4.out.grown hg5 hHB4.out.size (fun k hk=>by have:=hHlt.out k (.inr (.inr (.inl hk)));omega)
    have hZn5:¬qw (.slice A0 D.fn.length c0) (.slice A1 D.fl.length c1) (.slice A2 D.nn.length c2) (.slice A3 D.nl.length c3) (.slice A5 (fs.length+1) c5) (fs++[(s,.slice An s.ns.length cn,.slice Al s.ls.length cl)]) Z:=by
     intro hz
     rcases Zs ha5 hz with h1|h1|h1
     ·exact HZN.out h1
     ·omega
     ·exact hHnZ.out h1
    have hO6:=hO5.setFar (p:=⟨Z,4,none⟩) hZn5 (.slice A5 (fs.length+1) c5)
    have hO7:OwnD (w.heap.size+1+1) (w5.setCell ⟨Z,4,none⟩ (.slice A5 (fs.length+1) c5)) (.slice A0 D.fn.length c0) (.slice A1 D.fl.length c1) (.slice A2 D.nn.length c2) (.slice A3 D.nl.length c3) (.slice A5 (fs.length+1) c5) ⟨D.fn,D.fl,D.nn,D.nl,D.ss.take (fs.length+1)⟩ (fs++[(s,.slice An s.ns.length cn,.slice Al s.ls.length cl)]):=by
     rw[hsk.out];exact hO6
    have HFIN:Hid (CpSt w D v0 v1 v2 v3 (.slice (some ⟨b,off,none⟩) D.ss.length c) Z (fs.length+1) (w5.setCell ⟨Z,4,none⟩ (.slice A5 (fs.length+1) c5))):=
     Lib.hid ⟨A0,c0,A1,c1,A2,c2,A3,c3,A5,c5,_,hO7,hX5.far (p:=⟨Z,4,none⟩) (by show _≠Z;omega) _,hR5.far (p:=⟨Z,4,none⟩) (by show _≠Z;omega) _,hZ5.set_ 4 _,hZl,hZn5,hb5.setCell (p:=⟨Z,4,none⟩) (by show w.heap.size≤Z;omega) _⟩
    obtain⟨y_0,y_1,y_2,y_3,y_4,y_f0,y_f1,y_f2,y_f3,y_f4⟩:=hZ5.b5;clear hO5 hO6 hO7 hX5 hR5 hZ5 hb5 hZn5 hr5 hg5 ha5 hHO4 hHo4 hHX4 hHR4 hHZ4 hHL4 hHB4 hHN hHlt hHnZ HZN hsk s_0 s_1 s_2 s_3 s_4 s_f0 s_f1 s_f2 s_f3 s_f4 z_0 z_1 z_2 z_3 z_4;go_wp2;go_roundw
    case rel=>exact⟨fs.length+1,by omega,by go_num,HFIN⟩
    case measure=>simp[intOf];omega
   ·have hkk:fs.length=D.ss.length:=by omega
    have hO':OwnD (w.heap.size+1+1) wr (.slice A0 D.fn.length c0) (.slice A1 D.fl.length c1) (.slice A2 D.nn.length c2) (.slice A3 D.nl.length c3) (.slice A4 D.ss.length c4) D fs:=by
     have:=hO;rw[hkk,List.take_length] at this;exact this
    rw[hkk] at hZ;obtain⟨z_0,z_1,z_2,z_3,z_4⟩:=hZ.c5;obtain⟨r_0,r_1,r_2,r_3,r_4,r_f0,r_f1,r_f2,r_f3,r_f4⟩:=hR.b5;have hRlt:=hR.lt;have hlo:∀k,qw (.slice A0 D.fn.length c0) (.slice A1 D.fl.length c1) (.slice A2 D.nn.length c2) (.slice A3 D.nl.length c3) (.slice A4 D.ss.length c4) fs k→w.heap.size+1<k:=fun k hk=>(hO'.lt k hk).1
    have step:∀(W:World) (j:Nat) (u:Value),OwnD w.heap.size W (.slice A0 D.fn.length c0) (.slice A1 D.fl.length c1) (.slice A2 D.nn.length c2) (.slice A3 D.nl.length c3) (.slice A4 D.ss.length c4) D fs→OwnD w.heap.size (W.setCell ⟨w.heap.size+1,j,none⟩ u) (.slice A0 D.fn.length c0) (.slice A1 D.fl.length c1) (.slice A2 D.nn.length c2) (.slice A3 D.nl.length c3) (.slice A4 D.ss.length c4) D fs:=
     fun W j u hW=>hW.setFar (p:=⟨w.heap.size+1,j,none⟩) (fun hk=>by have h2:w.heap.size+1<w.heap.size+1:=hlo _ hk;omega) u
    have HH:∀u0 u1 u2 u3 u4,Hid (OwnD w.heap.size (((((wr.setCell ⟨w.heap.size+1,0,none⟩ u0).setCell ⟨w.heap.size+1,1,none⟩ u1).setCell ⟨w.heap.size+1,2,none⟩ u2).setCell ⟨w.heap.size+1,3,none⟩ u3).setCell ⟨w.heap.size+1,4,none⟩ u4) (.slice A0 D.fn.length c0) (.slice A1 D.fl.length c1) (.slice A2 D.nn.length c2) (.slice A3 D.nl.length c3) (.slice A4 D.ss.length c4) D fs):=fun u0 u1 u2 u3 u4=>
     Lib.hid (step _ _ _ (step _ _ _ (step _ _ _ (step _ _ _ (step _ _ _ (hO'.mono (by omega)))))))
    have HB:∀u0 u1 u2 u3 u4,Hid (Below w.heap.size w (((((wr.setCell ⟨w.heap.size+1,0,none⟩ u0).setCell ⟨w.heap.size+1,1,none⟩ u1).setCell ⟨w.heap.size+1,2,none⟩ u2).setCell ⟨w.heap.size+1,3,none⟩ u3).setCell ⟨w.heap.size+1,4,none⟩ u4)):=fun u0 u1 u2 u3 u4=>Lib.hid
     (((((hbl.setCell (p:=⟨w.heap.size+1,0,none⟩) sz_ u0).setCell (p:=⟨w.heap.size+1,1,none⟩) sz_ u1).setCell (p:=⟨w.heap.size+1,2,none⟩) sz_ u2).setCell (p:=⟨w.heap.size+1,3,none⟩) sz_ u3).setCell (p:=⟨w.heap.size+1,4,none⟩) sz_ u4)
    have hcx:¬((fs.length:Int)<(D.ss.length:Int)):=by omega
    clear hO hO' hlo step hcell hbl hX hZ hR hZn;go_wp2;exact bodyPost_ret (v:= .agg #[.slice A0 D.fn.length c0,.slice A1 D.fl.length c1,.slice A2 D.nn.length c2,.slice A3 D.nl.length c3,.slice A4 D.ss.length c4]) (by simp[results,Tryz.results80,go_sem,r_0,r_1,r_2,r_3,r_4,hRlt]) rfl ⟨_,_,_,_,_,_,_,_,_,_,fs,rfl,(HH _ _ _ _ _).out,(HB _ _ _ _ _).out⟩
end Go.Proofs.YtnjcpljhmhdhkaaGreat
