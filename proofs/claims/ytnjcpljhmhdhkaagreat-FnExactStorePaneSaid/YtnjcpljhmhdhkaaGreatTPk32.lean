/- part 32 -/
import Derived.Test.YtnjcpljhmhdhkaaGreatTPk31
set_option linter.unusedSimpArgs false
set_option linter.unusedVariables false
set_option maxRecDepth 100000
set_option maxHeartbeats 8000000
namespace Go.Proofs.YtnjcpljhmhdhkaaGreat
open Go.RowKit
def OwnE {α:Type} (t:TypeId) (enc:α→Value) (base:Nat) (w:World) (v:Value) (l:List α):Prop:=w.ownsRow base t 1 v l.length (l.map enc)
section
variable {α:Type} {t:TypeId} {enc:α→Value} {base:Nat} {w w':World} {v:Value} {l:List α} {g n cap:Nat}
theorem OwnE.kept (h:OwnE t enc base w v l) (hb:Below w.heap.size w w'):OwnE t enc base w' v l:=zX h hb
theorem OwnE.alloc (h:OwnE t enc base w v l) (o:Obj):OwnE t enc base (w.alloc o) v l:=World.ownsRow.alloc h o
theorem OwnE.lt (h:OwnE t enc base w v l):∀k,v.ownBlock=some k→base≤k∧k<w.heap.size:=World.ownsRow.lt h
theorem OwnE.form (h:OwnE t enc base w v l):∃A c,v= .slice A l.length c:=by
 rcases h.2 with ⟨rfl,hn⟩|⟨g,cap,cur,rfl,_⟩
 ·exact⟨none,0,by rw[hn]⟩
 ·exact⟨_,_,rfl⟩
theorem OwnE.len (h:OwnE t enc base w (.slice (some ⟨g,0,none⟩) n cap) l):n=l.length:=by
 obtain⟨A,c,e⟩:=h.form
 cases e;rfl
theorem OwnE.cell (h:OwnE t enc base w (.slice (some ⟨g,0,none⟩) n cap) l) (d:α) {q:Nat} (hq:q<l.length):w.cell? ⟨g,q,none⟩=some (enc (l.getD q d)):=by
 have e:=h.len;subst e;have ho:w.ownsRow base t 1 (.slice (some ⟨g,0,none⟩) l.length cap) l.length (l.map enc):=h;rw[ho.cellAt q (by omega),List.getElem?_map,List.getElem?_eq_getElem hq];simp[List.getD,List.getElem?_eq_getElem hq]
theorem OwnE.frz (h:OwnE t enc base w (.slice (some ⟨g,0,none⟩) n cap) l) (q:Nat):w.frozen? ⟨g,q,none⟩=false:=by
 have e:=h.len;subst e;have ho:w.ownsRow base t 1 (.slice (some ⟨g,0,none⟩) l.length cap) l.length (l.map enc):=h;exact ho.frozenAt q
theorem OwnE.set_ (h:OwnE t enc base w (.slice (some ⟨g,0,none⟩) n cap) l) (q:Nat) (x:α):OwnE t enc base (w.setCell ⟨g,q,none⟩ (enc x)) (.slice (some ⟨g,0,none⟩) n cap) (l.set q x):=by
 have e:=h.len;subst e;have ho:w.ownsRow base t 1 (.slice (some ⟨g,0,none⟩) l.length cap) l.length (l.map enc):=h;have:=(ho.stored q (enc x)).1;unfold OwnE;rw[List.length_set,List.map_set];exact this
theorem OwnE.other (h:OwnE t enc base w v l) {b2 s2 n2:Nat} {t2:TypeId} {u:Value} {xs:List Value} (h2:w.ownsRow b2 t2 s2 u n2 xs) (hne:t≠t2) (hg:w.grownBy w' u.ownBlock):OwnE t enc base w' v l:=by
 refine World.ownsRow.kept h hg ?_
 rcases h.2 with ⟨rfl,hn⟩|⟨g,cap,cur,rfl,_,hh,_⟩
 ·exact .inl rfl
 ·right
  rcases h2.2 with ⟨rfl,_⟩|⟨g2,cap2,cur2,rfl,_,hh2,_⟩
  ·exact fun e=>by cases e
  ·intro e
   have e':g=g2:=by injection e
   subst e';rw[hh] at hh2
   injection hh2 with hh2
   injection hh2 with _ hh2 _
   exact hne hh2
end
theorem RS.get {w:World} {v:Value} {n:Nat} {xs:List Value} (h:RS w 1 v n xs):∃A c,v= .slice A n c∧n≤c∧n≤maxLen∧(0<n→∃b off,A=some ⟨b,off,none⟩∧b<w.heap.size∧∀k,k<n→w.cell? ⟨b,off+k,none⟩=some (xs.getD k undef)):=by
 obtain⟨h0,A,c,h1,h2,h3,h4⟩:=h;refine⟨A,c,h1,h2,h3,fun hn=>?_⟩
 obtain⟨b,off,e1,e2,e3⟩:=h4 hn;refine⟨b,off,e1,e2,fun k hk=>e3 k _ ?_⟩
 rw[List.getD,List.getElem?_eq_getElem (by omega)];rfl
def OwnF (base:Nat) (w:World) (v:Value) (F:List (List Nat)):Prop:=∃vs:List Value,vs.length=F.length∧w.ownsRow base 31 1 v F.length vs∧∀k,k<F.length→OwnI base w (vs.getD k undef) (natI (F.getD k []))
def RF (w:World) (v:Value) (F:List (List Nat)):Prop:=∃vs:List Value,RS w 1 v F.length vs∧∀k,k<F.length→RI w (vs.getD k undef) (natI (F.getD k []))
def RetF (F:List (List Nat)) (w:World) (e:Ending) (w':World):Prop:=∃v,e= .returned v∧OwnF w.heap.size w' v F∧Below w.heap.size w w'
section
variable {base:Nat} {w w':World} {v:Value} {F:List (List Nat)}
theorem OwnF.nil (base:Nat) (w:World):OwnF base w (.slice none 0 0) []:=⟨[],rfl,World.ownsRow_nil _ _ _ _,fun k hk=>absurd hk (by simp)⟩
theorem OwnF.kept (h:OwnF base w v F) (hb:Below w.heap.size w w'):OwnF base w' v F:=by
 obtain⟨vs,h1,h2,h3⟩:=h;exact⟨vs,h1,zX h2 hb,fun k hk=>(h3 k hk).kept hb⟩
theorem OwnF.alloc (h:OwnF base w v F) (o:Obj):OwnF base (w.alloc o) v F:=h.kept ((Below.refl _ _).alloc (Nat.le_refl _) _)
theorem OwnF.far {row:Option Nat} (h:OwnF base w v F) (hg:w.grownBy w' row) (hr:∀k,row=some k→k<base):OwnF base w' v F:=by
 obtain⟨vs,h1,h2,h3⟩:=h;refine⟨vs,h1,?_,fun k hk=>(h3 k hk).far hg hr⟩
 refine World.ownsRow.kept h2 hg ?_
 cases hv:v.ownBlock with
 |none=>exact .inl rfl
 |some k=>
  right
  rintro rfl;have:=hr k rfl;have:=(World.ownsRow.lt h2 k hv).1;omega
theorem OwnF.mono {base':Nat} (h:OwnF base w v F) (hb:base'≤base):OwnF base' w v F:=by
 obtain⟨vs,h1,h2,h3⟩:=h;refine⟨vs,h1,?_,fun k hk=>(h3 k hk).mono hb⟩
 obtain⟨h4,h5⟩:=h2;refine⟨h4,?_⟩
 rcases h5 with h5|⟨g,cap,cur,e1,e2,e3⟩
 ·exact .inl h5
 ·exact .inr ⟨g,cap,cur,e1,Nat.le_trans hb e2,e3⟩
theorem OwnF.form (h:OwnF base w v F):∃A c,v= .slice A F.length c:=by
 obtain⟨vs,h1,h2,h3⟩:=h
 rcases h2.2 with ⟨rfl,hn⟩|⟨g,cap,cur,rfl,_⟩
 ·exact⟨none,0,by rw[hn]⟩
 ·exact⟨_,_,rfl⟩
theorem OwnF.reads (h:OwnF base w v F):RF w v F:=by
 obtain⟨vs,h1,h2,h3⟩:=h;exact⟨vs,kG h2,fun k hk=>(h3 k hk).reads⟩
theorem OwnF.lt (h:OwnF base w v F):∀k,v.ownBlock=some k→base≤k∧k<w.heap.size:=by
 obtain⟨vs,h1,h2,h3⟩:=h;exact World.ownsRow.lt h2
theorem RF.below (h:RF w v F) (hb:Below w.heap.size w w'):RF w' v F:=by
 obtain⟨vs,h1,h2⟩:=h;exact⟨vs,RS.below h1 hb,fun k hk=>(h2 k hk).below hb⟩
end
theorem z63:3≠31:=by decide
theorem OwnF.snoc {base n:Nat} {w w':World} {v v' u:Value} {vs:List Value} {F:List (List Nat)} {f:List Nat} (hv:vs.length=F.length) (h2:w.ownsRow base 31 1 v n vs) (h3:∀k,k<F.length→OwnI base w (vs.getD k undef) (natI (F.getD k [])))
  (hu:OwnI base w u (natI f)) (hg:w.grownBy w' v.ownBlock) (hw:w'.ownsRow base 31 1 v' (n+1) (vs++[u])):OwnF base w' v' (F++[f]):=by
 have hn:n=F.length:=by have:=h2.1;omega
 subst hn;have kp:∀x zs,OwnI base w x zs→OwnI base w' x zs:=fun x zs hx=>OwnE.other (t:=3) (enc:=vI) hx h2 z63 hg
 refine⟨vs++[u],by simp[hv],by simpa using hw,fun k hk=>?_⟩
 rw[List.length_append,List.length_singleton] at hk
 by_cases he:k=F.length
 ·subst he
  rw[List.getD,List.getElem?_append_right (by omega),hv,Nat.sub_self,List.getD,List.getElem?_append_right (Nat.le_refl _),Nat.sub_self];exact kp _ _ hu
 ·have hlt:k<F.length:=by omega
  have e1:(vs++[u]).getD k undef=vs.getD k undef:=by rw[List.getD,List.getD,List.getElem?_append_left (by omega)]
  have e2:(F++[f]).getD k []=F.getD k []:=by rw[List.getD,List.getD,List.getElem?_append_left hlt]
  rw[e1,e2];exact kp _ _ (h3 k hlt)
theorem z58:(Tryz.prog.info? 31).map (fun i=>(i.zero,i.size,i.bytes))=some (some (.slice none 0 0),1,24):=by kernel_rfl
theorem yQ {w:World} {ops:Array Oper} {rest:List Oper} {o:Oper} {a:Act} {Q:Exit→Act→World→Prop} (hgd:o.guard=none) (s x:Operand)
  (ho:o.op= .call { callee:= .builtin .append,args:= #[s,x],argTypes:= #[135,135] })
  (base:Nat) (v u:Value) (F:List (List Nat)) (f:List Nat) (hs:a.eval s=v) (g:Nat) (hx:a.eval x= .slice (some ⟨g,0,none⟩) 1 1) (hg:w.cell? ⟨g,0,none⟩=some u)
  (hown:OwnF base w v F) (hu:OwnI base w u (natI f)) (hlen:F.length≤1048576) (hbase:base≤w.heap.size)
  (h:∀v' w',OwnF base w' v' (F++[f])→w.grownBy w' v.ownBlock→wpList Tryz.prog ops Q rest (a.put o.dst v') w'):wpList Tryz.prog ops Q (o::rest) a w:=by
 obtain⟨i,hi,hz,hsize,hby⟩:=info_parts z58;obtain⟨vs,h1,h2,h3⟩:=hown
 exact wpList_append_own w hgd s x 135 ho base 31 i (.slice none 0 0) 1 24 Tryz.underlying135 hi hz hsize hby rfl (by decide) v F.length _ hs h2 ⟨g,0,none⟩ 1 1 [u] hx rfl
  (fun j y hj=>by
   match j,hj with
   |0,hj=>cases hj;exact hg
   |j+1,hj=>simp at hj)
  (by
   intro y hy;simp at hy
   subst hy;obtain⟨A,c,rfl⟩:=hu.form;rfl) (by unfold maxLen;omega) (by omega) hbase fun v' w' e1 e2 _=>h v' w' (OwnF.snoc h1 h2 h3 hu e2 e1) e2
def mkS (n:Nat) (F:List (List Nat)) (f:List Nat) (j:Nat):List Bool:=(List.range n).map fun e=>qN F e||(f.take j).contains e
theorem VL (n:Nat) (F:List (List Nat)) (f:List Nat) (j:Nat):(mkS n F f j).length =n:=by simp[mkS]
theorem z0L (n:Nat) (F:List (List Nat)) (f:List Nat):mkS n F f 0=(List.range n).map (qN F):=by simp[mkS]
theorem Vm (n:Nat):(List.range n).map (qN [])=List.replicate n false:=by
 apply List.ext_getElem?
 intro j
 by_cases hj:j<n
 ·simp[List.getElem?_map,hj,qN,List.getElem?_replicate]
 ·simp[hj,List.getElem?_replicate]
theorem z2D (n:Nat) (F:List (List Nat)) (f:List Nat):mkS n F f f.length=(List.range n).map (qN (F++[f])):=by
 unfold mkS qN;rw[List.take_length];simp
theorem XS (n:Nat) (F:List (List Nat)) (f:List Nat) (j:Nat) (hj:j<f.length):mkS n F f (j+1)=(mkS n F f j).set (f.getD j 0) true:=by
 have e:f.getD j 0=f[j]:=by simp[List.getD,hj]
 rw[e]
 apply List.ext_getElem?
 intro i;rw[List.getElem?_set,VL];unfold mkS
 by_cases hi:i<n
 ·rw[List.getElem?_map,List.getElem?_map,List.getElem?_range hi,Option.map_some,Option.map_some,List.take_succ_eq_append_getElem hj,List.contains_append]
  by_cases he:f[j]=i
  ·rw[if_pos he,if_pos (by omega),he];simp
  ·rw[if_neg he]
   have:([f[j]]:List Nat).contains i=false:=by simp;omega
   rw[this,Bool.or_false]
 ·have h1:(List.range n)[i]? =none:=by simp;omega
  rw[List.getElem?_map,List.getElem?_map,h1]
  by_cases he:f[j]=i
  ·rw[if_pos he,if_neg (by omega)];rfl
  ·rw[if_neg he];rfl
theorem z26 {n:Nat} {F:List (List Nat)} {d:Nat} (h:d<n):((List.range n).map (qN F)).getD d false=qN F d:=by simp[List.getD,h]
theorem z5A (n:Nat):(madeCells #[.bool false] n).toList =(List.replicate n false).map Value.bool:=by
 apply List.ext_getElem?
 intro j
 by_cases hj:j<n
 ·simp only[madeCells,Array.toList_map,List.getElem?_map,Array.toList_range,List.getElem?_range hj,List.getElem?_replicate,if_pos hj,Option.map_some]
  congr 1
  show #[Value.bool false][j%1]! =_
  rw[Nat.mod_one];rfl
 ·simp[madeCells,hj]
theorem z03:(Tryz.prog.info? 4).map (fun i=>(i.zero,i.size,i.bytes))=some (some (.bool false),1,1):=by kernel_rfl
noncomputable def zb (ns ls:List Pr):List (List Nat):=if zm ns ls then zk ns ls else []
theorem jc (vn vl:Value) (ns ls:List Pr) (b:Bool) (w:World) (hn:RP w vn ns) (hl:RP w vl ls) (hb:zm ns ls=b):
  Calls Tryz.prog 79 #[.agg #[vn,vl]] w fun e w'=>e= .returned (.bool b)∧Below w.heap.size w w':=by
 subst hb;exact z1o vn vl ns ls w hn hl
theorem yp {W:World} {v:Value} {t:TypeId} {g:Nat} (hg:g=W.heap.size):(W.alloc (.cells #[v] t)).cell? ⟨g,0,none⟩=some v:=(Blk.newAt hg).cell 0
theorem z5J:3≠4:=by decide
theorem OwnF.made {base g:Nat} {w:World} (hg:g=w.heap.size) (hb:base≤w.heap.size):OwnF base (w.alloc (.cells #[] 31)) (.slice (some ⟨g,0,none⟩) 0 0) []:=by
 subst hg;exact⟨[],rfl,World.ownsRow_made _ _ _ hb (by simp[maxLen]) (by simp),fun k hk=>absurd hk (by simp)⟩
theorem OwnF.grownNone {base:Nat} {w w':World} {v:Value} {F:List (List Nat)} (h:OwnF base w v F) (hg:w.grownBy w' none):OwnF base w' v F:=
 h.far hg (fun k hk=>by cases hk)
theorem OwnF.offType {base b2:Nat} {w w':World} {v u:Value} {F:List (List Nat)} {l:List Bool} (h:OwnF base w v F) (hs:OwnE 4 Value.bool b2 w u l) (hg:w.grownBy w' u.ownBlock):OwnF base w' v F:=by
 obtain⟨vs,h1,h2,h3⟩:=h
 have h2':OwnE 31 (fun x:Value=>x) base w v vs:=by
  unfold OwnE;rw[List.map_id',h1];exact h2
 refine⟨vs,h1,?_,fun k hk=>OwnE.other (t:=3) (enc:=vI) (h3 k hk) hs z5J hg⟩
 have:=OwnE.other h2' hs (by decide) hg;unfold OwnE at this;rw[List.map_id',h1] at this;exact this
theorem yC (vn vl:Value) (ns ls:List Pr) (w:World) (hn:RP w vn ns) (hl:RP w vl ls):
  Calls Tryz.prog 145 #[.agg #[vn,vl]] w (RetF (zb ns ls) w):=by
 obtain⟨An,cn,rfl,hcn,hmn,_⟩:=hn.formI;obtain⟨Al,cl,rfl,hcl,hml,_⟩:=hl.formI;unfold maxLen at hmn hml;have hb0:Below w.heap.size w (w.alloc (.cells #[.slice An ns.length cn,.slice Al ls.length cl] 27)):=by exact bel_
 have hW0:Blk (w.alloc (.cells #[.slice An ns.length cn,.slice Al ls.length cl] 27)) w.heap.size 27 #[.slice An ns.length cn,.slice Al ls.length cl]:=Blk.newAt rfl
 cases hw:zm ns ls
 ·have HR:Hid (zb ns ls=[]):=Lib.hid (by simp[zb,hw])
  go_enter Tryz.func145,Tryz.ntmps145
  go_wp2_with fail
  refine(jc _ _ ns ls _ _ (hn.below hb0) (hl.below hb0) hw).mono ?_
  rintro e w1 ⟨rfl,hb1⟩;have hbw1:=hb0.trans (hb1.mono hb0.size);go_wp2;go_ret
  exact⟨_,rfl,by rw[HR.out];exact OwnF.nil _ _,hbw1⟩
 ·have HR:Hid (zb ns ls=zo ns ls (2*ls.length)):=Lib.hid (by simp[zb,hw];rfl)
  have hwin:=(zW hw).1;have hpos:=(zW hw).2;have hm20:=hwin.2.2.1;have hld:∀j:Nat,j<ls.length→zj ns (ndI ls j)=true:=fun j hj=>(hwin.2.2.2.2.2 j hj).1
  obtain⟨i0,hi,iz0,iz1,iz2⟩:=info_parts z03;have HWK:=Lib.hid (fun (v:World) (d:Nat) (hv:Below w.heap.size w v) (hd:d<2*ls.length)=>z3u (.slice An ns.length cn) (.slice Al ls.length cl) ns ls d v (hn.below hv) (hl.below hv) hd hwin);have HBD:=Lib.hid (fun d hd=>kC (ns:=ns) hld (d:=d) hd);have HWL:=Lib.hid (fun d hd=>Jo (ns:=ns) hld (d:=d) hd);have HFL:=Lib.hid (vJ ns ls);have HFY:=Lib.hid (fun m h=>yD (ns:=ns) (ls:=ls) (m:=m) h);have HFN:=Lib.hid (fun m h=>vo (ns:=ns) (ls:=ls) (m:=m) h);have HF0:Hid (zo ns ls 0=[]):=Lib.hid rfl;have e2:2*(ls.length:Int)=((2*ls.length:Nat):Int):=by omega
  clear hwin hld
  go_enter Tryz.func145,Tryz.ntmps145
  go_wp2_with fail
  refine(jc _ _ ns ls _ _ (hn.below hb0) (hl.below hb0) hw).mono ?_
  rintro e w1 ⟨rfl,hb1⟩;have hbw1:=hb0.trans (hb1.mono hb0.size);have hW1:=hW0.below hb1 hW0.lt;have hz1:=hW1.lt;clear hb1 hb0 hW0 hw;obtain⟨a_0,a_1⟩:=hW1.c2;generalize hNN:2*ls.length=N at*;have hN40:N≤40:=by omega
  go_wp2_with (at_make;refine wpList_make_full _ rfl _ _ 182 rfl (w.heap.size+1) 4 i0 (.bool false) 1 Tryz.underlying182 hi iz0 iz1 .i64 .i64 _ _ N rfl rfl rfl rfl (by rw[iz2];omega) (by unfold maxLen;omega) (by omega) ?_)
  intro w2 hown1 hgr1;have hb2:Below w.heap.size w w2:=hbw1.grown hgr1 hbw1.size (by intro k hk;cases hk);have hW2:Blk w2 w.heap.size 27 #[.slice An ns.length cn,.slice Al ls.length cl]:=(hgr1.block _ hz1 (fun e=>by cases e)).trans hW1;have hz2:=hgr1.size
  have hsn:OwnE 4 Value.bool (w.heap.size+1) w2 (.slice (some ⟨w1.heap.size,0,none⟩) N N) ((List.range N).map (qN (zo ns ls 0))):=by
   unfold OwnE;rw[HF0.out,Vm,List.length_replicate];rw[←z5A];exact hown1
  have hgsz:=(hsn.lt _ rfl).2;have hO0:OwnF (w1.heap.size+1) w2 (.slice none 0 0) []:=OwnF.nil _ _;have hgg:=hz1;generalize w1.heap.size=gs at*;clear hown1 hgr1 hbw1 hW1 a_0 a_1 hz1 hz2;obtain⟨a_0,a_1⟩:=hW2.c2;go_wp2
  go_loopw [4,19] (fun v x wr=>∃d:Nat,d≤N∧x= .int .i64 d∧OwnF (gs+1) wr v (zo ns ls d)∧OwnE 4 Value.bool (w.heap.size+1) wr (.slice (some ⟨gs,0,none⟩) N N) ((List.range N).map (qN (zo ns ls d)))∧Blk wr w.heap.size 27 #[.slice An ns.length cn,.slice Al ls.length cl]∧Below w.heap.size w wr) (fun _ x _=>N -(intOf x).toNat)
  case atStart=>exact⟨0,Nat.zero_le _,rfl,by rw[HF0.out];exact hO0,hsn,hW2,hb2⟩
  case round=>
   clear hsn hW2 hb2 a_0 a_1;obtain⟨d,hd,rfl,ho,hsn,hW,hbl⟩:=hrel;have hsz:=hW.lt;have hgz:gs<wr.heap.size:=(hsn.lt gs rfl).2
   by_cases hlt:d<N
   ·have hlt1:(d:Int)<(N:Int):=by omega
    have hx:=hsn.cell false (q:=d) (by simpa using hlt);rw[z26 hlt] at hx;have HY:=Lib.hid (HFY.out d);have HNo:=Lib.hid (HFN.out d);have hfl:=HFL.out d;generalize zo ns ls d=F at*;obtain⟨a_0,a_1⟩:=hW.c2
    cases hs:qN F d
    ·rw[hs] at hx
     have HS:=Lib.hid (HNo.out hs);clear hs
     go_wp2_with fail
     refine(HWK.out _ d hbl hlt).mono ?_
     rintro e w3 ⟨v3,rfl,ho3,hb3⟩;have hF3:=ho.kept hb3;have hS3:=hsn.kept hb3;have hW3:=hW.below hb3 hsz;have hbl3:=hbl.trans (hb3.mono hbl.size);have hI3:OwnI (gs+1) w3 v3 (natI (qe ns ls d)):=ho3.mono (by omega);have HB:=Lib.hid (HBD.out d hlt);have hwl:=HWL.out d hlt;generalize qe ns ls d=f at*;obtain⟨A3,c3,rfl⟩:=hI3.form;rw[zc] at hI3⊢;rw[←z0L N F f] at hS3;clear hb3 ho3 ho hsn hW hbl a_0 a_1 hx hsz;go_wp2
     go_loopw [31] (fun x wr=>∃j:Nat,j≤f.length∧x= .int .i64 j∧OwnF (gs+1) wr u4 F∧OwnE 4 Value.bool (w.heap.size+1) wr (.slice (some ⟨gs,0,none⟩) N N) (mkS N F f j)∧OwnI (gs+1) wr (.slice A3 f.length c3) (natI f)∧Blk wr w.heap.size 27 #[.slice An ns.length cn,.slice Al ls.length cl]∧Below w.heap.size w wr) (fun x _=>f.length -(intOf x).toNat)
     case atStart=>exact⟨0,Nat.zero_le _,rfl,hF3,hS3,hI3,hW3,hbl3⟩
     case round=>
      clear hF3 hS3 hI3 hW3 hbl3;obtain⟨j,hj,rfl,ho,hsn,hI,hW,hbl⟩:=hrel;have hsz:=hW.lt
      by_cases hjl:j<f.length
      ·have hjl1:(j:Int)<(f.length:Int):=by omega
       have ij1:(0:Int)≤(j:Int):=by omega
       obtain⟨A4,c4,he4,hc4,hm4,hcell4⟩:=hI.reads.form;rw[zc] at he4
       cases he4
       rw[zc] at hcell4;obtain⟨b4,off4,rfl,hb4,hcl4⟩:=hcell4 (by omega);have hx:=hcl4 j hjl;rw[qQ] at hx;have hem:f.getD j 0<N:=HB.out _ (by rw[List.getD,List.getElem?_eq_getElem hjl];exact List.getElem_mem hjl);have HS1:=Lib.hid (XS N F f j hjl);generalize f.getD j 0=x at*;have ix1:(0:Int)≤(x:Int):=by omega
       have ix2:(x:Int)<(N:Int):=by omega
       have hxs:=hsn.cell false (q:=x) (by rw[VL];exact hem);obtain⟨z,hz⟩:∃z,wr.cell? ⟨gs,x,none⟩=some z:=⟨_,hxs⟩;have fx:=hsn.frz x;have HSN:Hid (OwnE 4 Value.bool (w.heap.size+1) (wr.setCell ⟨gs,x,none⟩ (.bool true)) (.slice (some ⟨gs,0,none⟩) N N) (mkS N F f (j+1))):=Lib.hid (by rw[HS1.out];exact hsn.set_ x true);have hgw:wr.grownBy (wr.setCell ⟨gs,x,none⟩ (.bool true)) (some gs):=yr (vE _ _) x _;have HOF:=Lib.hid (ho.far hgw (fun k hk=>by cases hk;omega));have HIF:=Lib.hid (hI.far hgw (fun k hk=>by cases hk;omega));have HWF:=Lib.hid (hW.far (p:=⟨gs,x,none⟩) (show ¬w.heap.size=gs by omega) (.bool true));have HBF:=Lib.hid (hbl.setCell (p:=⟨gs,x,none⟩) (show w.heap.size≤gs by omega) (.bool true));clear ho hsn hI hW hbl hxs hgw hcl4 hcell4;go_wp2;go_roundw
       case rel=>exact⟨j+1,by omega,by go_num,HOF.out,HSN.out,HIF.out,HWF.out,HBF.out⟩
       case measure=>simp[intOf];omega
      ·have hjj:j=f.length:=by omega
       subst hjj;have HSN:Hid (OwnE 4 Value.bool (w.heap.size+1) wr (.slice (some ⟨gs,0,none⟩) N N) ((List.range N).map (qN (F++[f])))):=Lib.hid (by rw[←z2D];exact hsn);have hgz4:gs<wr.heap.size:=(hsn.lt gs rfl).2;clear hsn
       go_wp2_with (at_builtin;refine yQ rfl _ _ rfl (gs+1) _ (.slice A3 f.length c3) F f rfl wr.heap.size rfl (yp (by simp)) (ho.alloc _) (hI.alloc _) (by omega) (by simp;omega) ?_)
       intro v4 w4 hF4 hg4;have hrb:∀k,(u4:Value).ownBlock =some k→gs+1≤k∧k<wr.heap.size:=fun k hk=>ho.lt k hk
       have hbl4:Below w.heap.size w w4:=(hbl.alloc hbl.size (.cells #[.slice A3 f.length c3] 31)).grown hg4 (by simp;have:=hbl.size;omega) (fun k hk=>by have:=(hrb k hk).1;omega);have hW4:Blk w4 w.heap.size 27 #[.slice An ns.length cn,.slice Al ls.length cl]:=(hg4.block _ (by simp;omega) (fun e=>by have:=(hrb _ e.symm).1;omega)).trans (hW.alloc _)
       have hS4:OwnE 4 Value.bool (w.heap.size+1) w4 (.slice (some ⟨gs,0,none⟩) N N) ((List.range N).map (qN (F++[f]))):=by
        obtain⟨vs,g1,g2,g3⟩:=ho.alloc (.cells #[.slice A3 f.length c3] 31);exact OwnE.other (HSN.out.alloc _) g2 (by decide) hg4
       clear ho hI hW hbl hg4 hrb;go_wp2;go_roundw
       case rel=>exact⟨d+1,by omega,by go_num,by rw[HS.out];exact hF4,by rw[HS.out];exact hS4,hW4,hbl4⟩
       case measure=>simp[intOf];omega
    ·rw[hs] at hx
     have HS:=Lib.hid (HY.out hs);clear hs;go_wp2;go_roundw
     case rel=>exact⟨d+1,by omega,by go_num,by rw[HS.out];exact ho,by rw[HS.out];exact hsn,hW,hbl⟩
     case measure=>simp[intOf];omega
   ·have hdd:d=N:=by omega
    subst hdd;have HN:=Lib.hid hNN;go_wp2;go_ret
    exact⟨_,rfl,by rw[HR.out];exact ho.mono (by omega),hbl⟩
theorem jF (vn vl:Value) (ns ls:List Pr) (w:World) (hn:RP w vn ns) (hl:RP w vl ls):
  Calls Tryz.prog 121 #[.agg #[vn,vl]] w (RetF (zb ns ls) w):=by
 obtain⟨An,cn,rfl,hcn,hmn,_⟩:=hn.formI;obtain⟨Al,cl,rfl,hcl,hml,_⟩:=hl.formI;unfold maxLen at hmn hml;have hb0:Below w.heap.size w ((w.alloc (.cells #[.slice An ns.length cn,.slice Al ls.length cl] 27)).alloc (.cells #[] 31)):=by exact bel_
 have hW0:Blk ((w.alloc (.cells #[.slice An ns.length cn,.slice Al ls.length cl] 27)).alloc (.cells #[] 31)) w.heap.size 27 #[.slice An ns.length cn,.slice Al ls.length cl]:=(Blk.newAt rfl).alloc _;have hOz:OwnF (w.heap.size+1) ((w.alloc (.cells #[.slice An ns.length cn,.slice Al ls.length cl] 27)).alloc (.cells #[] 31)) (.slice (some ⟨w.heap.size+1,0,none⟩) 0 0) []:=OwnF.made (by simp) (by simp)
 cases hw:zm ns ls
 ·have HR:Hid (zb ns ls=[]):=Lib.hid (by simp[zb,hw])
  go_enter Tryz.func121,Tryz.ntmps121
  go_wp2_with fail
  refine(ju _ _ ns ls _ _ (hn.below hb0) (hl.below hb0) hw).mono ?_
  rintro e w1 ⟨rfl,hb1⟩;have hbw1:=hb0.trans (hb1.mono hb0.size);have hOz1:=hOz.kept hb1;go_wp2;go_ret
  exact⟨_,rfl,by rw[HR.out];exact hOz1.mono (by omega),hbw1⟩
 ·have HR:Hid (zb ns ls=zo ns ls (2*ls.length)):=Lib.hid (by simp[zb,hw];rfl)
  have hwin:=(zW hw).1;have hpos:=(zW hw).2;have hm20:=hwin.2.2.1;have hld:∀j:Nat,j<ls.length→zj ns (ndI ls j)=true:=fun j hj=>(hwin.2.2.2.2.2 j hj).1
  obtain⟨i0,hi,iz0,iz1,iz2⟩:=info_parts z03;have HWK:=Lib.hid (fun (v:World) (d:Nat) (hv:Below w.heap.size w v) (hd:d<2*ls.length)=>z3x (.slice An ns.length cn) (.slice Al ls.length cl) ns ls d v (hn.below hv) (hl.below hv) hd hwin);have HBD:=Lib.hid (fun d hd=>kC (ns:=ns) hld (d:=d) hd);have HWL:=Lib.hid (fun d hd=>Jo (ns:=ns) hld (d:=d) hd);have HFL:=Lib.hid (vJ ns ls);have HFY:=Lib.hid (fun m h=>yD (ns:=ns) (ls:=ls) (m:=m) h);have HFN:=Lib.hid (fun m h=>vo (ns:=ns) (ls:=ls) (m:=m) h);have HF0:Hid (zo ns ls 0=[]):=Lib.hid rfl;have e2:2*(ls.length:Int)=((2*ls.length:Nat):Int):=by omega
  clear hwin hld
  go_enter Tryz.func121,Tryz.ntmps121
  go_wp2_with fail
  refine(ju _ _ ns ls _ _ (hn.below hb0) (hl.below hb0) hw).mono ?_
  rintro e w1 ⟨rfl,hb1⟩;have hbw1:=hb0.trans (hb1.mono hb0.size);have hW1:=hW0.below hb1 hW0.lt;have hOz1:=hOz.kept hb1;have hz1:=hW1.lt;clear hb1 hb0 hW0 hw;obtain⟨a_0,a_1⟩:=hW1.c2;generalize hNN:2*ls.length=N at*;have hN40:N≤40:=by omega
  go_wp2_with (at_make;refine wpList_make_full _ rfl _ _ 182 rfl (w.heap.size+1) 4 i0 (.bool false) 1 Tryz.underlying182 hi iz0 iz1 .i64 .i64 _ _ N rfl rfl rfl rfl (by rw[iz2];omega) (by unfold maxLen;omega) (by omega) ?_)
  intro w2 hown1 hgr1;have hb2:Below w.heap.size w w2:=hbw1.grown hgr1 hbw1.size (by intro k hk;cases hk);have hW2:Blk w2 w.heap.size 27 #[.slice An ns.length cn,.slice Al ls.length cl]:=(hgr1.block _ hz1 (fun e=>by cases e)).trans hW1;have hz2:=hgr1.size
  have hsn:OwnE 4 Value.bool (w.heap.size+1) w2 (.slice (some ⟨w1.heap.size,0,none⟩) N N) ((List.range N).map (qN (zo ns ls 0))):=by
   unfold OwnE;rw[HF0.out,Vm,List.length_replicate];rw[←z5A];exact hown1
  have hgsz:=(hsn.lt _ rfl).2;have hO0:OwnF (w.heap.size+1) w2 (.slice (some ⟨w.heap.size+1,0,none⟩) 0 0) []:=hOz1.grownNone hgr1;clear hOz hOz1;have hgg:=hz1;generalize w1.heap.size=gs at*;clear hown1 hgr1 hbw1 hW1 a_0 a_1 hz1 hz2;obtain⟨a_0,a_1⟩:=hW2.c2;go_wp2
  go_loopw [3,5] (fun v x wr=>∃d:Nat,d≤N∧x= .int .i64 d∧OwnF (w.heap.size+1) wr v (zo ns ls d)∧OwnE 4 Value.bool (w.heap.size+1) wr (.slice (some ⟨gs,0,none⟩) N N) ((List.range N).map (qN (zo ns ls d)))∧Blk wr w.heap.size 27 #[.slice An ns.length cn,.slice Al ls.length cl]∧Below w.heap.size w wr) (fun _ x _=>N -(intOf x).toNat)
  case atStart=>exact⟨0,Nat.zero_le _,rfl,by rw[HF0.out];exact hO0,hsn,hW2,hb2⟩
  case round=>
   clear hsn hW2 hb2 a_0 a_1;obtain⟨d,hd,rfl,ho,hsn,hW,hbl⟩:=hrel;have hsz:=hW.lt;have hgz:gs<wr.heap.size:=(hsn.lt gs rfl).2
   by_cases hlt:d<N
   ·have hlt1:(d:Int)<(N:Int):=by omega
    have hx:=hsn.cell false (q:=d) (by simpa using hlt);rw[z26 hlt] at hx;have HY:=Lib.hid (HFY.out d);have HNo:=Lib.hid (HFN.out d);have hfl:=HFL.out d;generalize zo ns ls d=F at*;obtain⟨a_0,a_1⟩:=hW.c2
    cases hs:qN F d
    ·rw[hs] at hx
     have HS:=Lib.hid (HNo.out hs);clear hs
     go_wp2_with fail
     refine(HWK.out _ d hbl hlt).mono ?_
     rintro e w3 ⟨v3,rfl,ho3,hb3⟩;have hF3:=ho.kept hb3;have hS3:=hsn.kept hb3;have hW3:=hW.below hb3 hsz;have hbl3:=hbl.trans (hb3.mono hbl.size);have hI3:OwnI (w.heap.size+1) w3 v3 (natI (qe ns ls d)):=ho3.mono (by omega);have HB:=Lib.hid (HBD.out d hlt);have hwl:=HWL.out d hlt;generalize qe ns ls d=f at*;obtain⟨A3,c3,rfl⟩:=hI3.form;rw[zc] at hI3⊢;rw[←z0L N F f] at hS3;clear hb3 ho3 ho hsn hW hbl a_0 a_1 hx hsz;go_wp2
     go_loopw [7] (fun x wr=>∃j:Nat,j≤f.length∧x= .int .i64 j∧OwnF (w.heap.size+1) wr u3 F∧OwnE 4 Value.bool (w.heap.size+1) wr (.slice (some ⟨gs,0,none⟩) N N) (mkS N F f j)∧OwnI (w.heap.size+1) wr (.slice A3 f.length c3) (natI f)∧Blk wr w.heap.size 27 #[.slice An ns.length cn,.slice Al ls.length cl]∧Below w.heap.size w wr) (fun x _=>f.length -(intOf x).toNat)
     case atStart=>exact⟨0,Nat.zero_le _,rfl,hF3,hS3,hI3,hW3,hbl3⟩
     case round=>
      clear hF3 hS3 hI3 hW3 hbl3;obtain⟨j,hj,rfl,ho,hsn,hI,hW,hbl⟩:=hrel;have hsz:=hW.lt
      by_cases hjl:j<f.length
      ·have hjl1:(j:Int)<(f.length:Int):=by omega
       have ij1:(0:Int)≤(j:Int):=by omega
       obtain⟨A4,c4,he4,hc4,hm4,hcell4⟩:=hI.reads.form;rw[zc] at he4
       cases he4
       rw[zc] at hcell4;obtain⟨b4,off4,rfl,hb4,hcl4⟩:=hcell4 (by omega);have hx:=hcl4 j hjl;rw[qQ] at hx;have hem:f.getD j 0<N:=HB.out _ (by rw[List.getD,List.getElem?_eq_getElem hjl];exact List.getElem_mem hjl);have HS1:=Lib.hid (XS N F f j hjl);generalize f.getD j 0=x at*;have ix1:(0:Int)≤(x:Int):=by omega
       have ix2:(x:Int)<(N:Int):=by omega
       have hxs:=hsn.cell false (q:=x) (by rw[VL];exact hem);obtain⟨z,hz⟩:∃z,wr.cell? ⟨gs,x,none⟩=some z:=⟨_,hxs⟩;have fx:=hsn.frz x;have HSN:Hid (OwnE 4 Value.bool (w.heap.size+1) (wr.setCell ⟨gs,x,none⟩ (.bool true)) (.slice (some ⟨gs,0,none⟩) N N) (mkS N F f (j+1))):=Lib.hid (by rw[HS1.out];exact hsn.set_ x true);have hgw:wr.grownBy (wr.setCell ⟨gs,x,none⟩ (.bool true)) (some gs):=yr (vE _ _) x _;have HOF:=Lib.hid (ho.offType hsn hgw);have HIF:=Lib.hid (OwnE.other (t:=3) (enc:=vI) hI hsn z5J hgw);have HWF:=Lib.hid (hW.far (p:=⟨gs,x,none⟩) (show ¬w.heap.size=gs by omega) (.bool true));have HBF:=Lib.hid (hbl.setCell (p:=⟨gs,x,none⟩) (show w.heap.size≤gs by omega) (.bool true));clear ho hsn hI hW hbl hxs hgw hcl4 hcell4;go_wp2;go_roundw
       case rel=>exact⟨j+1,by omega,by go_num,HOF.out,HSN.out,HIF.out,HWF.out,HBF.out⟩
       case measure=>simp[intOf];omega
      ·have hjj:j=f.length:=by omega
       subst hjj;have HSN:Hid (OwnE 4 Value.bool (w.heap.size+1) wr (.slice (some ⟨gs,0,none⟩) N N) ((List.range N).map (qN (F++[f])))):=Lib.hid (by rw[←z2D];exact hsn);have hgz4:gs<wr.heap.size:=(hsn.lt gs rfl).2;clear hsn
       go_wp2_with (at_builtin;refine yQ rfl _ _ rfl (w.heap.size+1) _ (.slice A3 f.length c3) F f rfl wr.heap.size rfl (yp (by simp)) (ho.alloc _) (hI.alloc _) (by omega) (by simp;omega) ?_)
       intro v4 w4 hF4 hg4;have hrb:∀k,(u3:Value).ownBlock =some k→w.heap.size+1≤k∧k<wr.heap.size:=fun k hk=>ho.lt k hk
       have hbl4:Below w.heap.size w w4:=(hbl.alloc hbl.size (.cells #[.slice A3 f.length c3] 31)).grown hg4 (by simp;have:=hbl.size;omega) (fun k hk=>by have:=(hrb k hk).1;omega);have hW4:Blk w4 w.heap.size 27 #[.slice An ns.length cn,.slice Al ls.length cl]:=(hg4.block _ (by simp;omega) (fun e=>by have:=(hrb _ e.symm).1;omega)).trans (hW.alloc _)
       have hS4:OwnE 4 Value.bool (w.heap.size+1) w4 (.slice (some ⟨gs,0,none⟩) N N) ((List.range N).map (qN (F++[f]))):=by
        obtain⟨vs,g1,g2,g3⟩:=ho.alloc (.cells #[.slice A3 f.length c3] 31);exact OwnE.other (HSN.out.alloc _) g2 (by decide) hg4
       clear ho hI hW hbl hg4 hrb;go_wp2;go_roundw
       case rel=>exact⟨d+1,by omega,by go_num,by rw[HS.out];exact hF4,by rw[HS.out];exact hS4,hW4,hbl4⟩
       case measure=>simp[intOf];omega
    ·rw[hs] at hx
     have HS:=Lib.hid (HY.out hs);clear hs;go_wp2;go_roundw
     case rel=>exact⟨d+1,by omega,by go_num,by rw[HS.out];exact ho,by rw[HS.out];exact hsn,hW,hbl⟩
     case measure=>simp[intOf];omega
   ·have hdd:d=N:=by omega
    subst hdd;have HN:=Lib.hid hNN;go_wp2;go_ret
    exact⟨_,rfl,by rw[HR.out];exact ho.mono (by omega),hbl⟩
end Go.Proofs.YtnjcpljhmhdhkaaGreat
