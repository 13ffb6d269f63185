/- part 34 -/
import Derived.Test.YtnjcpljhmhdhkaaGreatTPk33
set_option linter.unusedSimpArgs false
set_option linter.unusedVariables false
set_option maxRecDepth 100000
set_option maxHeartbeats 8000000
namespace Go.Proofs.YtnjcpljhmhdhkaaGreat
theorem z37 {n:Nat} {ls:List Pr} (hl:xm n ls) {c:Nat}:∀k,∀i,i<n→(zp (2^c) ls k).testBit i=true→(zh n ls ls.length).getD i 0=(zh n ls ls.length).getD c 0:=by
 have step:∀(m:Nat),m≤ls.length→∀s:Nat,(∀i,i<n→s.testBit i=true→(zh n ls ls.length).getD i 0=(zh n ls ls.length).getD c 0)→∀i,i<n→(zV s (ls.take m)).testBit i=true→(zh n ls ls.length).getD i 0=(zh n ls ls.length).getD c 0:=by
  intro m
  induction m with
  |zero=>intro _ s h i hi hb;exact h i hi (by simpa[zV] using hb)
  |succ m ih=>
   intro hm s h i hi hb;have ih':=ih (by omega) s h;rw[List.take_succ_eq_append_getElem (by omega),yZ] at hb;generalize zV s (ls.take m)=t at*;obtain⟨p,q,g1,g2,g3,g4⟩:=hl m (by omega);have hpq:=xf hl ls.length (Nat.le_refl _) m (by omega) p q g1 g2;rw[zT ls m (by omega)] at g1 g2;have hb':(addS t ls[m]).testBit i=true:=hb;unfold addS at hb';rw[g1,g2,Int.toNat_natCast,Int.toNat_natCast] at hb'
   split at hb'
   ·rename_i hor
    rw[Nat.testBit_or,Nat.testBit_or,Bool.or_eq_true,Bool.or_eq_true] at hb'
    have hlab:(zh n ls ls.length).getD p 0=(zh n ls ls.length).getD c 0:=by
     rw[Bool.or_eq_true] at hor
     rcases hor with h5|h5
     ·exact ih' p g3 h5
     ·rw[hpq];exact ih' q g4 h5
    rcases hb' with h5|h5|h5
    ·exact ih' i hi h5
    ·rw[Nat.testBit_two_pow] at h5
     have:p=i:=by simpa using h5
     rw[←this];exact hlab
    ·rw[Nat.testBit_two_pow] at h5
     have:q=i:=by simpa using h5
     rw[←this,←hpq];exact hlab
   ·exact ih' i hi hb'
 intro k
 induction k with
 |zero=>
  intro i hi hb;rw[show zp (2^c) ls 0=2^c from rfl,Nat.testBit_two_pow] at hb;have:c=i:=by simpa using hb
  rw[this]
 |succ k ih=>
  intro i hi hb;have:=step ls.length (Nat.le_refl _) (zp (2^c) ls k) ih i hi;rw[List.take_length] at this;exact this hb
theorem Zo {S p:Nat} (hp:S.testBit p=true) (hl:∀i,i<p→S.testBit i=false):∀n,(n≤p→memS S n=[])∧(p<n→(memS S n)[0]? =some p)
 |0=>⟨fun _=>rfl,fun h=>absurd h (by omega)⟩
 |n+1=>by
  have ih:=Zo hp hl n
  have e:memS S (n+1)=memS S n++(if S.testBit n=true then [n] else []):=by
   unfold memS;rw[List.range_succ,List.filter_append]
   congr 1
   by_cases h:S.testBit n=true<;>simp[h]
  constructor
  ·intro h
   rw[e,ih.1 (by omega),if_neg (by rw[hl n (by omega)];simp)];rfl
  ·intro h
   by_cases hn:p<n
   ·rw[e,List.getElem?_append_left,ih.2 hn]
    have:=ih.2 hn;exact(List.getElem?_eq_some_iff.1 this).1
   ·have hpn:n=p:=by omega
    subst hpn;rw[e,ih.1 (by omega),if_pos hp];rfl
theorem z1y {n:Nat} {ls:List Pr} (hl:xm n ls) {c:Nat} (hc:c<n):
  ∃p:Nat,(zh n ls ls.length).getD c 0=(p:Int)∧p≤c∧(memS (zp (2^c) ls n) n)[0]? =some p:=by
 have hl':∀l∈ls,l.1.toNat <n∧l.2.toNat <n:=by
  intro l hm;obtain⟨j,hj,e⟩:=List.getElem_of_mem hm;obtain⟨p,q,h1,h2,h3,h4⟩:=hl j hj;rw[zT ls j hj,e] at h1 h2;rw[h1,h2,Int.toNat_natCast,Int.toNat_natCast];exact⟨h3,h4⟩
 have h1:(2:Nat)^c<2^n:=Nat.pow_lt_pow_right (by omega) hc;have hm1:0<(memS (2^c) n).length :=List.length_pos_of_mem (a:=c) (by simp[memS,hc,Nat.testBit_two_pow_self]);have hf:=V6 (Zu h1 hm1 hl')
 have hsub:∀k,(zp (2^c) ls k).testBit c=true:=by
  intro k
  induction k with
  |zero=>exact Nat.testBit_two_pow_self
  |succ k ih=>exact yw ls _ ih
 have hlab:=z37 hl (c:=c) n;have hself:=hsub n;generalize zp (2^c) ls n=S at*;have hbd:=xV hl ls.length (Nat.le_refl _) c hc
 have hcl:=ym hl (fun i=>S.testBit i=true) (fun j hj p q hp hq=>by
  have:=hf ls[j] (List.getElem_mem hj);rw[zT ls j hj] at hp hq;rw[hp,hq,Int.toNat_natCast,Int.toNat_natCast] at this;exact this) ls.length (Nat.le_refl _) c hc
 obtain⟨p,hp⟩:∃p:Nat,(zh n ls ls.length).getD c 0=(p:Int):=⟨((zh n ls ls.length).getD c 0).toNat,(Int.toNat_of_nonneg hbd.1).symm⟩;rw[hp,Int.toNat_natCast] at hcl;rw[hp] at hbd hlab;refine⟨p,hp,by omega,(Zo (hcl.1 hself) (fun i hi=>?_) n).2 (by omega)⟩
 cases hb:S.testBit i
 ·rfl
 ·have h2:=hlab i (by omega) hb
  have h3:=xV hl ls.length (Nat.le_refl _) i (by omega);omega
def yc (n:Nat) (ls:List Pr):Nat→Nat
 |0=>0
 |k+1=>if (zh n ls ls.length).getD k 0=(k:Int) then yc n ls k+1 else yc n ls k
theorem xF (n:Nat) (ls:List Pr):∀k,yc n ls k≤k
 |0=>Nat.le_refl _
 |k+1=>by have:=xF n ls k;unfold yc;split<;>omega
theorem JJ {n:Nat} {ls:List Pr} {k:Nat} (h:(zh n ls ls.length).getD k 0=(k:Int)):yc n ls (k+1)=yc n ls k+1:=by simp only[yc];rw[if_pos h]
theorem z0z {n:Nat} {ls:List Pr} {k:Nat} (h:¬(zh n ls ls.length).getD k 0=(k:Int)):yc n ls (k+1)=yc n ls k:=by simp only[yc];rw[if_neg h]
noncomputable def jg (ns ls:List Pr):Int:=if winB ns ls then(yc ns.length ls ns.length:Int) else 0
noncomputable def qm (ns ls:List Pr):Int:=if winB ns ls then(ls.length:Int) -ns.length+1+jg ns ls else 0
noncomputable def yh (ns ls:List Pr):Int:=if qm ns ls -1<0 then 0 else qm ns ls -1
theorem Qr (ns ls:List Pr):0≤jg ns ls∧jg ns ls≤12:=by
 unfold jg
 cases h:winB ns ls
 ·simp
 ·have:=(zI.1 h).2.1
  have:=xF ns.length ls ns.length;rw[if_pos rfl];omega
theorem ZS (ns ls:List Pr): -20≤qm ns ls∧qm ns ls≤40:=by
 unfold qm
 cases h:winB ns ls
 ·simp
 ·have h1:=(zI.1 h).2.1
  have h2:=(zI.1 h).2.2.1;have:=Qr ns ls;rw[if_pos rfl];omega
def qt (g:List Int) (f:List Nat) (k:Nat):Nat→List Int
 |0=>g
 |j+1=>(qt g f k j).set (f.getD j 0) k
def qM (F:List (List Nat)) (z:List Int):Nat→List Int
 |0=>z
 |k+1=>qt (qM F z k) (F.getD k []) k (F.getD k []).length
theorem yI (g:List Int) (f:List Nat) (k:Nat):∀j,(qt g f k j).length =g.length
 |0=>rfl
 |j+1=>by simp only[qt,List.length_set];exact yI g f k j
theorem yR (F:List (List Nat)) (z:List Int):∀k,(qM F z k).length =z.length
 |0=>rfl
 |k+1=>by simp only[qM];rw[yI];exact yR F z k
noncomputable def je (ns ls:List Pr):List Int:=qM (zb ns ls) (List.replicate (2*ls.length) 0) (zb ns ls).length
theorem xA (ns ls:List Pr):(je ns ls).length =2*ls.length:=by unfold je;rw[yR];simp
theorem Jf {g:List Int} {f:List Nat} {k m:Nat} (hk:k<m) (hg:∀x∈g,0≤x∧x<(m:Int)):∀j,∀x∈qt g f k j,0≤x∧x<(m:Int)
 |0=>hg
 |j+1=>by
  intro x hx;simp only[qt] at hx
  rcases List.mem_or_eq_of_mem_set hx with h|h
  ·exact Jf hk hg j x h
  ·omega
theorem ZW {F:List (List Nat)} {z:List Int} {m:Nat} (hz:∀x∈z,0≤x∧x<(m:Int)):∀k,k≤m→∀x∈qM F z k,0≤x∧x<(m:Int)
 |0,_=>hz
 |k+1,h=>Jf (by omega) (ZW hz k (by omega)) _
theorem Vi {ns ls:List Pr} (h:0<(zb ns ls).length) {d:Nat} (hd:d<2*ls.length):∃k:Nat,(je ns ls).getD d 0=(k:Int)∧k<(zb ns ls).length :=by
 have hb:=ZW (F:=zb ns ls) (z:=List.replicate (2*ls.length) 0) (m:=(zb ns ls).length) (fun x hx=>by
  have:=List.eq_of_mem_replicate hx;omega) (zb ns ls).length (Nat.le_refl _)
 have hl:d<(je ns ls).length :=by rw[xA];exact hd
 have:=hb ((je ns ls).getD d 0) (by rw[List.getD,List.getElem?_eq_getElem hl];exact List.getElem_mem hl);exact⟨((je ns ls).getD d 0).toNat,by omega,by omega⟩
def yH (l:List Int) (a b:Int):Bool:=l.all (fun x=>inB x a b)
def vH (l:List Int) (a b:Int) (k:Nat):Prop:=∀j,j<k→inB (l.getD j 0) a b=true
theorem xk {l:List Int} {a b:Int}:yH l a b=true↔vH l a b l.length:=by
 unfold yH vH;rw[List.all_eq_true]
 constructor
 ·intro h j hj
  rw[List.getD,List.getElem?_eq_getElem hj];exact h _ (List.getElem_mem hj)
 ·intro h x hx
  obtain⟨j,hj,rfl⟩:=List.getElem_of_mem hx;have:=h j hj;rw[List.getD,List.getElem?_eq_getElem hj] at this;exact this
theorem V9 {l:List Int} {a b:Int} {k:Nat} (hk:k<l.length) (h:inB (l.getD k 0) a b=false):yH l a b=false:=by
 cases hc:yH l a b
 ·rfl
 ·have:=xk.1 hc k hk
  rw[h] at this;cases this
noncomputable def ql (ns ls:List Pr) (cs:List Int):Bool:=zm ns ls&&(decide (cs.length=(zb ns ls).length)&&yH cs 0 5)
noncomputable def Zx (ns ls:List Pr) (cs:List Int) (k:Nat):Bool:=
 decide (¬(je ns ls).getD (2*k) 0=(je ns ls).getD (2*k+1) 0)&&decide (cs.getD ((je ns ls).getD (2*k) 0).toNat 0=cs.getD ((je ns ls).getD (2*k+1) 0).toNat 0)
noncomputable def jE (ns ls:List Pr) (cs:List Int):Nat→Nat→Int
 |0,_=> -1
 |m+1,k=>if Zx ns ls cs k=true then k else jE ns ls cs m (k+1)
noncomputable def jD (ns ls:List Pr) (cs:List Int):Int:=if ql ns ls cs=true then jE ns ls cs ls.length 0 else -1
noncomputable def qL (ns ls:List Pr) (cs:List Int):Bool:=ql ns ls cs&&decide (jD ns ls cs<0)
def dpI (l:List Dp) (i:Nat):Dp:=l.getD i ⟨0,0,0⟩
theorem jr {l:List Dp} {i:Nat} (h:i<l.length):dpI l i=l[i]:=by simp[dpI,List.getD,h]
def qc (l:List Dp) (x:Int) (j:Nat):Bool:=(List.range j).all (fun i=>decide (¬(dpI l i).k =x))
theorem VY (l:List Dp) (x:Int):qc l x 0=true:=rfl
theorem Vz (l:List Dp) (x:Int) (j:Nat):qc l x (j+1)=(qc l x j&&decide (¬(dpI l j).k =x)):=by
 unfold qc;rw[List.range_succ,List.all_append];simp
theorem QD {l:List Dp} {x:Int} {i j:Nat} (h:i<j) (hx:(dpI l i).k =x):qc l x j=false:=by
 cases hc:qc l x j
 ·rfl
 ·unfold qc at hc
  have:=List.all_eq_true.1 hc i (List.mem_range.2 h);simp[hx] at this
def depB (l:List Dp) (i:Nat):Bool:=
 inB (dpI l i).k 1 200&&(inB (dpI l i).a 1 50&&(inB (dpI l i).b 0 9999&&((decide (i=0)||decide ((dpI l (i -1)).b ≤(dpI l i).b))&&qc l (dpI l i).k i)))
def kn (l:List Dp) (k:Nat):Prop:=∀j,j<k→depB l j=true
def qW (l:List Dp):Bool:=decide (l.length≤40)&&(List.range l.length).all (depB l)
theorem jY {l:List Dp}:qW l=true↔l.length≤40∧kn l l.length:=by
 unfold qW kn;rw[Bool.and_eq_true,decide_eq_true_eq,List.all_eq_true]
 constructor
 ·rintro⟨h1,h2⟩;exact⟨h1,fun j hj=>h2 j (List.mem_range.2 hj)⟩
 ·rintro⟨h1,h2⟩;exact⟨h1,fun j hj=>h2 j (List.mem_range.1 hj)⟩
theorem JH {l:List Dp} {k:Nat} (hk:k<l.length) (h:depB l k=false):qW l=false:=by
 cases hc:qW l
 ·rfl
 ·have:=(jY.1 hc).2 k hk
  rw[h] at this;cases this
theorem Jl {l:List Dp} (h:¬l.length≤40):qW l=false:=by unfold qW;rw[decide_eq_false h];rfl
theorem J6 (l:List Dp):kn l 0:=fun j hj=>absurd hj (by omega)
theorem Jd {l:List Dp} {k:Nat} (h:kn l k) (hk:depB l k=true):kn l (k+1):=fun j hj=>by
 by_cases e:j=k
 ·subst e;exact hk
 ·exact h j (by omega)
noncomputable def q8 (S:St):Bool:=
 okD S.D&&(qW S.ds&&(inB S.fund 0 1000000&&((decide (S.cs.length=0)||qL S.D.nn S.D.nl S.cs)&&((decide (S.ds.length=0)||zm S.D.nn S.D.nl)&&S.ds.all (fun d=>decide (d.k≤yh S.D.nn S.D.nl))))))
open Go.RowKit
theorem z5F (n:Nat):(madeCells #[.int .i64 0] n).toList =(List.replicate n (0:Int)).map vI:=by
 apply List.ext_getElem?
 intro j
 by_cases hj:j<n
 ·simp only[madeCells,Array.toList_map,List.getElem?_map,Array.toList_range,List.getElem?_range hj,List.getElem?_replicate,if_pos hj,Option.map_some]
  congr 1
  show #[Value.int .i64 0][j%1]! =_
  rw[Nat.mod_one];rfl
 ·simp[madeCells,hj]
noncomputable def xc (ns ls:List Pr):List Int:=if zm ns ls then je ns ls else []
theorem Zq {ns ls:List Pr} (hw:zm ns ls=true):0<(zb ns ls).length :=by
 have hwin:=zW hw;have hld:∀j:Nat,j<ls.length→zj ns (ndI ls j)=true:=fun j hj=>(hwin.1.2.2.2.2.2 j hj).1
 have hF:zb ns ls=zk ns ls:=by simp[zb,hw]
 rw[hF];have h1:=(j7 hld (2*ls.length) (Nat.le_refl _)).1 0 (by omega)
 rcases Nat.eq_zero_or_pos (zk ns ls).length with h0|h0
 ·have:zo ns ls (2*ls.length)=[]:=List.eq_nil_of_length_eq_zero h0
  rw[this] at h1;simp at h1
 ·exact h0
theorem z2q {base:Nat} {w:World} {g n c:Nat} {l:List Int} (h:OwnI base w (.slice (some ⟨g,0,none⟩) n c) l) (q:Nat) (x:Int):OwnI base (w.setCell ⟨g,q,none⟩ (.int .i64 x)) (.slice (some ⟨g,0,none⟩) n c) (l.set q x):=
 OwnE.set_ (t:=3) (enc:=vI) h q x
theorem kT {w w':World} {b o:Nat} (h:w'.heap[b]? =w.heap[b]?):w'.cell? ⟨b,o,none⟩=w.cell? ⟨b,o,none⟩:=by
 simp only[World.cell?,h]
theorem z5f {base:Nat} {w:World} {v:Value} {l:List Int} (h:OwnI base w v l) (hn:0<l.length):
  ∃b c,v= .slice (some ⟨b,0,none⟩) l.length c∧base≤b∧b<w.heap.size∧∀j,j<l.length→w.cell? ⟨b,j,none⟩=some (.int .i64 (l.getD j 0)):=by
 rcases hc:h.2 with ⟨_,h0⟩|⟨g,cap,cur,rfl,hb,_⟩
 ·omega
 ·exact⟨g,cap,rfl,hb,(OwnI.lt h g rfl).2,fun j hj=>OwnE.cell (t:=3) (enc:=vI) h 0 hj⟩
theorem z4C {base:Nat} {w:World} {v:Value} {F:List (List Nat)} (h:OwnF base w v F) (hn:0<F.length) (hp:∀k,k<F.length→0<(F.getD k []).length):
  ∃b c,v= .slice (some ⟨b,0,none⟩) F.length c∧base≤b∧b<w.heap.size∧∀k,k<F.length→∃b5 c5,w.cell? ⟨b,k,none⟩=some (.slice (some ⟨b5,0,none⟩) (F.getD k []).length c5)∧base≤b5∧b5<w.heap.size∧
   ∀j,j<(F.getD k []).length →w.cell? ⟨b5,j,none⟩=some (.int .i64 ((F.getD k []).getD j 0:Nat)):=by
 obtain⟨vs,h1,h2,h3⟩:=h
 rcases hc:h2.2 with ⟨_,h0⟩|⟨g,cap,cur,rfl,hb,_⟩
 ·omega
 ·refine⟨g,cap,rfl,hb,(World.ownsRow.lt h2 g rfl).2,fun k hk=>?_⟩
  obtain⟨b5,c5,e,hb5,hl5,hc5⟩:=z5f (h3 k hk) (by rw[zc];exact hp k hk);rw[zc] at e hc5;have hcell:=h2.cellAt k (by omega);have hvk:vs[k]? =some (vs.getD k undef):=by rw[List.getD,List.getElem?_eq_getElem (by omega)];rfl
  rw[hvk,e] at hcell;exact⟨b5,c5,hcell,hb5,hl5,fun j hj=>by rw[hc5 j hj,qQ]⟩
theorem z3b (vn vl:Value) (ns ls:List Pr) (w:World) (hn:RP w vn ns) (hl:RP w vl ls) (hw:zm ns ls=false):
  Calls Tryz.prog 145 #[.agg #[vn,vl]] w fun e w'=>e= .returned (.slice none 0 0)∧Below w.heap.size w w':=by
 have hb0:Below w.heap.size w (w.alloc (.cells #[vn,vl] 27)):=by exact bel_
 go_enter Tryz.func145,Tryz.ntmps145
 go_wp2_with fail
 refine(jc _ _ ns ls _ _ (hn.below hb0) (hl.below hb0) hw).mono ?_
 rintro e w1 ⟨rfl,hb1⟩;have hbw1:=hb0.trans (hb1.mono hb0.size);go_wp2;go_ret
 exact⟨rfl,hbw1⟩
theorem z1p (vn vl:Value) (ns ls:List Pr) (w:World) (hn:RP w vn ns) (hl:RP w vl ls):
  Calls Tryz.prog 147 #[.agg #[vn,vl]] w (RetI (xc ns ls) w):=by
 obtain⟨An,cn,rfl,hcn,hmn,_⟩:=hn.formI;obtain⟨Al,cl,rfl,hcl,hml,_⟩:=hl.formI;unfold maxLen at hmn hml;have hb0:Below w.heap.size w (w.alloc (.cells #[.slice An ns.length cn,.slice Al ls.length cl] 27)):=by exact bel_
 have hW0:Blk (w.alloc (.cells #[.slice An ns.length cn,.slice Al ls.length cl] 27)) w.heap.size 27 #[.slice An ns.length cn,.slice Al ls.length cl]:=Blk.newAt rfl
 cases hw:zm ns ls
 ·have HR:Hid (xc ns ls=[]):=Lib.hid (by simp[xc,hw])
  have hnil:=fun (u:World) (a:Option Addr) (l c:Nat)=>Lib.run_eql_slice_nil (P:=Tryz.prog) u 135 31 a l c 0 0 Tryz.underlying135
  go_enter Tryz.func147,Tryz.ntmps147
  go_wp2_with fail
  refine(z3b _ _ ns ls _ (hn.below hb0) (hl.below hb0) hw).mono ?_
  rintro e w1 ⟨rfl,hb1⟩;have hbw1:=hb0.trans (hb1.mono hb0.size);go_wp2;go_ret
  exact⟨_,rfl,by rw[HR.out];exact OwnI.nil _ _,hbw1⟩
 ·have HR:Hid (xc ns ls=je ns ls):=Lib.hid (by simp[xc,hw])
  have hwin:=(zW hw).1;have hm20:=hwin.2.2.1;have hfp:=Zq hw;obtain⟨i0,hi,iz0,iz1,iz2⟩:=info_parts qu;have HAT:=Lib.hid (fun k hk=>jt (ns:=ns) (ls:=ls) (k:=k) hk);have hfl:=zL ns ls;have HS:Hid (je ns ls=qM (zb ns ls) (List.replicate (2*ls.length) 0) (zb ns ls).length):=Lib.hid rfl;have e2:2*(ls.length:Int)=((2*ls.length:Nat):Int):=by omega
  clear hwin hw;have hnil:=fun (u:World) (a:Option Addr) (l c:Nat)=>Lib.run_eql_slice_nil (P:=Tryz.prog) u 135 31 a l c 0 0 Tryz.underlying135
  go_enter Tryz.func147,Tryz.ntmps147
  go_wp2_with fail
  refine(yC _ _ ns ls _ (hn.below hb0) (hl.below hb0)).mono ?_
  rintro e w1 ⟨v1,rfl,ho1,hb1⟩;have hbw1:=hb0.trans (hb1.mono hb0.size);have hW1:=hW0.below hb1 hW0.lt;have hz1:=hW1.lt;have hF1:=ho1.reads;generalize zb ns ls=F at*;obtain⟨A1,c1,rfl,hc1,hm1,hcell1⟩:=hF1.get;unfold maxLen at hm1;obtain⟨b1,off1,rfl,hb1l,hcl1⟩:=hcell1 hfp;have HC1:=Lib.hid hcl1;clear hb1 hb0 hW0 ho1 hcell1 hcl1 hF1 hn hl;obtain⟨a_0,a_1⟩:=hW1.c2;generalize hNN:2*ls.length=N at*;have hN40:N≤40:=by omega
  have HZ:=Lib.hid (fun k=>yR F (List.replicate N (0:Int)) k);have HFR:=Lib.hid (fun (g:List Int) (f:List Nat) (k j:Nat)=>yI g f k j);have HN:=Lib.hid hNN;clear hNN
  go_wp2_with (at_make;refine wpList_make_full _ rfl _ _ 31 rfl (w.heap.size+1) 3 i0 (.int .i64 0) 1 Tryz.underlying31 hi iz0 iz1 .i64 .i64 _ _ N rfl rfl rfl rfl (by rw[iz2];omega) (by unfold maxLen;omega) (by omega) ?_)
  intro w2 hown1 hgr1;have hB2:Below w1.heap.size w1 w2:=(Below.refl _ _).grown hgr1 (Nat.le_refl _) (by intro k hk;cases hk)
  have hsn:OwnI (w.heap.size+1) w2 (.slice (some ⟨w1.heap.size,0,none⟩) N N) (qM F (List.replicate N 0) 0):=by
   show OwnI _ _ _ (List.replicate N 0)
   unfold OwnI;rw[List.length_replicate,←z5F];exact hown1
  have hgsz:=(hsn.lt _ rfl).2;have hgg:=hz1;obtain⟨gs,hgs⟩:∃g,w1.heap.size=g:=⟨_,rfl⟩;rw[hgs] at hB2 hsn hgsz hgg hb1l⊢;have HGS:=Lib.hid hgs;clear hown1 hgr1 a_0 a_1 hz1 hgs i0 hi iz0 iz1 iz2;go_wp2
  go_loopw [20] (fun x wr=>∃k:Nat,k≤F.length∧x= .int .i64 k∧OwnI (w.heap.size+1) wr (.slice (some ⟨gs,0,none⟩) N N) (qM F (List.replicate N 0) k)∧Below gs w1 wr) (fun x _=>F.length -(intOf x).toNat)
  case atStart=>exact⟨0,Nat.zero_le _,rfl,hsn,hB2⟩
  case round=>
   clear hsn hB2 hgsz;obtain⟨k,hk,rfl,ho,hB⟩:=hrel
   by_cases hlt:k<F.length
   ·have hlt1:(k:Int)<(F.length:Int):=by omega
    have ik1:(0:Int)≤(k:Int):=by omega
    obtain⟨rr,hcr,hrr⟩:=HC1.out k hlt;have hcr':=(hB.cell (p:=⟨b1,off1+k,none⟩) hb1l).trans hcr;have hb1w:b1<wr.heap.size:=by have:=hB.size;rw[HGS.out] at this;omega
    obtain⟨hwin,hfe,hf0,hf40⟩:=HAT.out k hlt;have HFE:=Lib.hid hfe;have HSK:Hid (qM F (List.replicate N 0) (k+1)=qt (qM F (List.replicate N 0) k) (F.getD k []) k (F.getD k []).length):=Lib.hid rfl;have hgl:=HZ.out k;rw[List.length_replicate] at hgl;generalize qM F (List.replicate N 0) k=G at*;generalize F.getD k []=f at*;obtain⟨A5,c5,rfl,hc5,hm5,hcell5⟩:=hrr.form;rw[zc] at hcell5 hcr' hc5 hm5;obtain⟨b5,off5,rfl,hb5,hcl5⟩:=hcell5 hf0;rw[HGS.out] at hb5;have HC5:=Lib.hid hcl5;clear hcell5 hcl5 hcr hrr hfe hwin;have h0:OwnI (w.heap.size+1) wr (.slice (some ⟨gs,0,none⟩) N N) (qt G f k 0):=ho;clear ho;go_wp2
    go_loopw [27] (fun x wr=>∃j:Nat,j≤f.length∧x= .int .i64 j∧OwnI (w.heap.size+1) wr (.slice (some ⟨gs,0,none⟩) N N) (qt G f k j)∧Below gs w1 wr) (fun x _=>f.length -(intOf x).toNat)
    case atStart=>exact⟨0,Nat.zero_le _,rfl,h0,hB⟩
    case round=>
     clear h0 hB hcr' hb1w;obtain⟨j,hj,rfl,ho,hB⟩:=hrel
     by_cases hjl:j<f.length
     ·have hjl1:(j:Int)<(f.length:Int):=by omega
      have ij1:(0:Int)≤(j:Int):=by omega
      have hcj:=(hB.cell (p:=⟨b5,off5+j,none⟩) hb5).trans (HC5.out j hjl);rw[qQ] at hcj;have hb5w:b5<wr.heap.size:=by have:=hB.size;rw[HGS.out] at this;omega
      have hem:f.getD j 0<N:=HFE.out _ (by rw[List.getD,List.getElem?_eq_getElem hjl];exact List.getElem_mem hjl);have HSJ:Hid (qt G f k (j+1)=(qt G f k j).set (f.getD j 0) k):=Lib.hid rfl;have hrl:=HFR.out G f k j;generalize f.getD j 0=x at*;have ix1:(0:Int)≤(x:Int):=by omega
      have ix2:(x:Int)<(N:Int):=by omega
      have hxs:=OwnE.cell (t:=3) (enc:=vI) ho 0 (q:=x) (by omega);obtain⟨z,hz⟩:∃z,wr.cell? ⟨gs,x,none⟩=some z:=⟨_,hxs⟩;have fx:=OwnE.frz (t:=3) (enc:=vI) ho x;have HSN:Hid (OwnI (w.heap.size+1) (wr.setCell ⟨gs,x,none⟩ (.int .i64 k)) (.slice (some ⟨gs,0,none⟩) N N) (qt G f k (j+1))):=Lib.hid (by rw[HSJ.out];exact z2q ho x k);have HBF:=Lib.hid (hB.setCell (p:=⟨gs,x,none⟩) (Nat.le_refl _) (.int .i64 k));have hgl1:=(OwnI.lt ho gs rfl).2;clear ho hB hxs;go_wp2;go_roundw
      case rel=>exact⟨j+1,by omega,by go_num,HSN.out,HBF.out⟩
      case measure=>simp[intOf];omega
     ·have hjj:j=f.length:=by omega
      subst hjj;go_wp2;go_roundw
      case rel=>exact⟨k+1,by omega,by go_num,by rw[HSK.out];exact ho,hB⟩
      case measure=>simp[intOf];omega
   ·have hkk:k=F.length:=by omega
    subst hkk;have HB:=Lib.hid (hbw1.trans (Below.mono (by rw[HGS.out];exact hB) hbw1.size));go_wp2;go_ret
    exact⟨_,rfl,by rw[HR.out,HS.out];exact OwnI.mono ho (by omega),HB.out⟩
theorem z1a (vn vl:Value) (ns ls:List Pr) (w:World) (hn:RP w vn ns) (hl:RP w vl ls) (hw:zm ns ls=true):
  Calls Tryz.prog 200 #[.agg #[vn,vl]] w (RetI (je ns ls) w):=by
 obtain⟨An,cn,rfl,hcn,hmn,_⟩:=hn.formI;obtain⟨Al,cl,rfl,hcl,hml,_⟩:=hl.formI;unfold maxLen at hmn hml;have hb0:Below w.heap.size w (w.alloc (.cells #[.slice An ns.length cn,.slice Al ls.length cl] 27)):=by exact bel_
 have hW0:Blk (w.alloc (.cells #[.slice An ns.length cn,.slice Al ls.length cl] 27)) w.heap.size 27 #[.slice An ns.length cn,.slice Al ls.length cl]:=Blk.newAt rfl;have hwin:=(zW hw).1;have hm20:=hwin.2.2.1;have hfp:=Zq hw;obtain⟨i0,hi,iz0,iz1,iz2⟩:=info_parts qu;have HAT:=Lib.hid (fun k hk=>jt (ns:=ns) (ls:=ls) (k:=k) hk);have hfl:=zL ns ls;have HS:Hid (je ns ls=qM (zb ns ls) (List.replicate (2*ls.length) 0) (zb ns ls).length):=Lib.hid rfl;have e2:2*(ls.length:Int)=((2*ls.length:Nat):Int):=by omega
 have HFA:=Lib.hid (fun (v:World) (h1:RP v (.slice An ns.length cn) ns) (h2:RP v (.slice Al ls.length cl) ls)=>jF (.slice An ns.length cn) (.slice Al ls.length cl) ns ls v h1 h2);clear hwin hw;obtain⟨w1,hw1⟩:∃w1,w1=w.alloc (.cells #[.slice An ns.length cn,.slice Al ls.length cl] 27):=⟨_,rfl⟩;have hs1:w1.heap.size=w.heap.size+1:=by rw[hw1];simp
 have HW1:=Lib.hid hw1;rw[←hw1] at hb0 hW0;clear hw1
 go_enter Tryz.func200,Tryz.ntmps200
 go_upto_region 1 with (fail)
 rw[←HW1.out];clear HW1;obtain⟨a_0,a_1⟩:=hW0.c2;have hz1:=hW0.lt;generalize hNN:2*ls.length=N at*;have hN40:N≤40:=by omega
 have HZ:=Lib.hid (fun F k=>yR F (List.replicate N (0:Int)) k);have HFR:=Lib.hid (fun (g:List Int) (f:List Nat) (k j:Nat)=>yI g f k j);have HN:=Lib.hid hNN;clear hNN
 go_wp2_with (at_make;refine wpList_make_full _ rfl _ _ 31 rfl (w.heap.size+1) 3 i0 (.int .i64 0) 1 Tryz.underlying31 hi iz0 iz1 .i64 .i64 _ _ N rfl rfl rfl rfl (by rw[iz2];omega) (by unfold maxLen;omega) (by omega) ?_)
 intro w2 hown1 hgr1;have hB2:Below w1.heap.size w1 w2:=(Below.refl _ _).grown hgr1 (Nat.le_refl _) (by intro k hk;cases hk)
 have hsn:OwnI (w.heap.size+1) w2 (.slice (some ⟨w.heap.size+1,0,none⟩) N N) (List.replicate N 0):=by
  unfold OwnI;rw[List.length_replicate,←z5F];exact hown1
 have hbw2:=hb0.trans (hB2.mono hb0.size);have hW2:=hW0.below hB2 hz1;have hz2:=hW2.lt;obtain⟨gs,hgs⟩:∃g,w.heap.size+1=g:=⟨_,rfl⟩;clear hown1 hgr1 a_0 a_1 hz1 hB2 hb0 hW0 i0 hi iz0 iz1 iz2;rw[hgs] at hsn⊢;have HGS:=Lib.hid hgs;clear hgs hs1;obtain⟨a_0,a_1⟩:=hW2.c2
 go_wp2_with fail
 refine(HFA.out _ (hn.below hbw2) (hl.below hbw2)).mono ?_
 rintro e w3 ⟨v3,rfl,ho3,hb3⟩;have hbw3:=hbw2.trans (hb3.mono hbw2.size);have hs3:=hsn.kept hb3;have hF3:=ho3.reads;have hgl2:gs<w2.heap.size:=(OwnI.lt hsn gs rfl).2;generalize zb ns ls=F at*;have hFP:=fun k hk=>(HAT.out k hk).2.2.1
 obtain⟨b1,c1,rfl,hbb,hb1l,hcl1⟩:=z4C ho3 hfp hFP;have hs3l:=hb3.size;have HC1:=Lib.hid hcl1;have HFE:=Lib.hid (fun k hk=>(HAT.out k hk).2.1);have H40:=Lib.hid (fun k hk=>(HAT.out k hk).2.2.2);have hF40:=hfl;clear hF3 hcl1 hFP HAT hb3 ho3 hbw2 hW2 hsn a_0 a_1;have hgr0:w3.grownBy w3 (some gs):=World.grownBy.refl _ _;go_wp2
 go_loopw [5] (fun x wr=>∃k:Nat,k≤F.length∧x= .int .i64 k∧OwnI gs wr (.slice (some ⟨gs,0,none⟩) N N) (qM F (List.replicate N 0) k)∧w3.grownBy wr (some gs)) (fun x _=>F.length -(intOf x).toNat)
 case atStart=>exact⟨0,Nat.zero_le _,rfl,hs3,hgr0⟩
 case round=>
  clear hs3 hgr0;obtain⟨k,hk,rfl,ho,hB⟩:=hrel
  by_cases hlt:k<F.length
  ·have hlt1:(k:Int)<(F.length:Int):=by omega
   have ik1:(0:Int)≤(k:Int):=by omega
   obtain⟨b5,c5,hcr,hbb5,hb5,hc5⟩:=HC1.out k hlt;have HFE1:=Lib.hid (HFE.out k hlt);have hf40:=H40.out k hlt;have HSK:Hid (qM F (List.replicate N 0) (k+1)=qt (qM F (List.replicate N 0) k) (F.getD k []) k (F.getD k []).length):=Lib.hid rfl;have hgl:=HZ.out F k;rw[List.length_replicate] at hgl;generalize qM F (List.replicate N 0) k=G at*;generalize F.getD k []=f at*;have HCR:=Lib.hid hcr;have HC5:=Lib.hid hc5;clear hcr hc5;have h0:OwnI gs wr (.slice (some ⟨gs,0,none⟩) N N) (qt G f k 0):=ho;clear ho;go_wp2
   go_loopw [6] (fun x wr=>∃j:Nat,j≤f.length∧x= .int .i64 j∧OwnI gs wr (.slice (some ⟨gs,0,none⟩) N N) (qt G f k j)∧w3.grownBy wr (some gs)) (fun x _=>f.length -(intOf x).toNat)
   case atStart=>exact⟨0,Nat.zero_le _,rfl,h0,hB⟩
   case round=>
    clear h0 hB;obtain⟨j,hj,rfl,ho,hB⟩:=hrel;have hcr:=(kT (o:=k) (hB.block b1 (by omega) (fun e=>by cases e;omega))).trans HCR.out;have hsz:=hB.size;have hb1w:b1<wr.heap.size:=by omega
    have hb5w:b5<wr.heap.size:=by omega
    by_cases hjl:j<f.length
    ·have hjl1:(j:Int)<(f.length:Int):=by omega
     have ij1:(0:Int)≤(j:Int):=by omega
     have hcj:=(kT (o:=j) (hB.block b5 (by omega) (fun e=>by cases e;omega))).trans (HC5.out j hjl);have hem:f.getD j 0<N:=HFE1.out _ (by rw[List.getD,List.getElem?_eq_getElem hjl];exact List.getElem_mem hjl);have HSJ:Hid (qt G f k (j+1)=(qt G f k j).set (f.getD j 0) k):=Lib.hid rfl;have hrl:=HFR.out G f k j;generalize f.getD j 0=x at*;have ix1:(0:Int)≤(x:Int):=by omega
     have ix2:(x:Int)<(N:Int):=by omega
     have hxs:=OwnE.cell (t:=3) (enc:=vI) ho 0 (q:=x) (by omega);obtain⟨z,hz⟩:∃z,wr.cell? ⟨gs,x,none⟩=some z:=⟨_,hxs⟩;have fx:=OwnE.frz (t:=3) (enc:=vI) ho x;have HSN:Hid (OwnI gs (wr.setCell ⟨gs,x,none⟩ (.int .i64 k)) (.slice (some ⟨gs,0,none⟩) N N) (qt G f k (j+1))):=Lib.hid (by rw[HSJ.out];exact z2q ho x k);have HBF:=Lib.hid (qA hB x (.int .i64 k));have hgl1:=(OwnI.lt ho gs rfl).2;clear ho hB hxs;go_wp2;go_roundw
     case rel=>exact⟨j+1,by omega,by go_num,HSN.out,HBF.out⟩
     case measure=>simp[intOf];omega
    ·have hjj:j=f.length:=by omega
     subst hjj;go_wp2;go_roundw
     case rel=>exact⟨k+1,by omega,by go_num,by rw[HSK.out];exact ho,hB⟩
     case measure=>simp[intOf];omega
  ·have hkk:k=F.length:=by omega
   subst hkk;have HB:=Lib.hid (hbw3.grown hB hbw3.size (fun k hk=>by cases hk;have:=HGS.out;omega));go_wp2;go_ret
   exact⟨_,rfl,by rw[HS.out];exact OwnI.mono ho (by have:=HGS.out;omega),HB.out⟩
end Go.Proofs.YtnjcpljhmhdhkaaGreat
