/- part 14 -/
import Derived.Test.YtnjcpljhmhdhkaaGreatEPk6
import Derived.Test.YtnjcpljhmhdhkaaGreatEPk7
import Derived.Test.YtnjcpljhmhdhkaaGreatEPk13
import Derived.Deep.RegionHeld3
set_option linter.unusedSimpArgs false
set_option linter.unusedVariables false
set_option maxRecDepth 100000
set_option maxHeartbeats 8000000
namespace Go.Proofs.YtnjcpljhmhdhkaaGreat
open Go.RowKit
def dnP (k:Int) (l:Pr):Pr:=(dnI k l.1,dnI k l.2)
def jwo (ls:List Pr) (k:Int) (p q:Nat) (X:Pr):Nat->List Pr
 |0=> []
 |j+1=>if j=q then jwo ls k p q X j else jwo ls k p q X j++[dnP k (if j=p then X else ndI ls (j:Nat))]
theorem z0Q (ls:List Pr) (k:Int) (p q:Nat) (X:Pr):∀j,(jwo ls k p q X j).length <=j
 |0=>by simp[jwo]
 |j+1=>by
  have:=z0Q ls k p q X j;unfold jwo
  split<;>simp<;>omega
theorem Z1 (l:List Pr) (j:Nat) (h:j<l.length):l.take (j+1)=l.take j++[ndI l (j:Nat)]:=by
 rw[qd l j h,aax h]
theorem JD (l:List Pr) (x:Pr) (m:Nat):(l++[x]).eraseIdx m=if l.length=m then l else l.eraseIdx m++[x]:=by
 by_cases h:l.length=m
 ·rw[aao h,List.eraseIdx_append_of_length_le o_]
  simp[h]
 ·rw[aaq h]
  by_cases h2:m<l.length
  ·rw[List.eraseIdx_append_of_lt_length h2]
  ·rw[List.eraseIdx_append_of_length_le o_,List.eraseIdx_of_length_le (by simp;omega),List.eraseIdx_of_length_le o_]
theorem z6T (ns:List Pr) (m:Nat):∀j,j<=ns.length->nwo ns m j=(ns.take j).eraseIdx m
 |0,_=>by simp[nwo]
 |j+1,h=>by
  have hl:(ns.take j).length =j:=by simp;omega
  rw[Z1 ns j o_,JD,hl];unfold nwo;rw[z6T ns m j o_]
  by_cases hj:j=m
  ·rw[aao o_,aao hj,List.eraseIdx_of_length_le o_]
  ·rw[aaq o_,aaq hj]
theorem z0C (ls:List Pr) (p:Nat) (X:Pr) (j:Nat) (h:j<ls.length):ndI (ls.set p X) (j:Nat)=if j=p then X else ndI ls (j:Nat):=by
 rw[qd _ _ (by simpa using h),qd _ _ h,List.getElem_set]
 by_cases hj:j=p
 ·rw[aao hj,aao hj.symm]
 ·rw[aaq hj,aaq (fun e=>hj e.symm)]
theorem z6Y (ls:List Pr) (k:Int) (p q:Nat) (X:Pr):∀j,j<=ls.length->jwo ls k p q X j=(((ls.set p X).take j).eraseIdx q).map (dnP k)
 |0,_=>by simp[jwo]
 |j+1,h=>by
  have hl:((ls.set p X).take j).length =j:=by simp;omega
  rw[Z1 _ j (by simp;omega),JD,hl];unfold jwo;rw[z6Y ls k p q X j o_,z0C ls p X j o_]
  by_cases hj:j=q
  ·rw[aao hj,aao hj,List.eraseIdx_of_length_le o_]
  ·rw[aaq hj,aaq hj,aaz];rfl
theorem z79 (ls:List Pr) (k:Int) (hnt:∀j:Nat,j<ls.length->(ndI ls j).1≠k/\(ndI ls j).2≠k):∀j,j<=ls.length->lwo ls k j=(ls.take j).map (dnP k)
 |0,_=>by simp[lwo]
 |j+1,h=>by
  rw[Z1 ls j o_];unfold lwo;rw[aao (hnt j o_),z79 ls k hnt j o_,aaz];rfl
theorem z0z (ls:List Pr) (k:Int):∀m,∀i,i<m->jN ls k i=true->i∈atN ls k m
 |0,i,h,_=>by omega
 |m+1,i,h,ht=>by
  cases hm:jN ls k m
  ·rw[z0F hm]
   by_cases e:i=m
   ·subst e;rw[hm] at ht;cases ht
   ·exact z0z ls k m i o_ ht
  ·rw[J8 hm]
   by_cases e:i=m
   ·subst e;simp
   ·simp[z0z ls k m i o_ ht]
structure JoinAt (ns ls:List Pr) (m p q t u:Nat):Prop where
 win:zC ns ls
 hm:m<ns.length
 at_:atN ls m ls.length=[p,q]
 hp:p<ls.length
 hq:q<ls.length
 ends:yO ls m (atN ls m ls.length)=[(t:Int),(u:Int)]
 ht:t<ns.length
 hu:u<ns.length
 tk:(t:Int)≠m
 uk:(u:Int)≠m
 ot:othI (ndI ls p) m=(t:Int)
 ou:othI (ndI ls q) m=(u:Int)
theorem z2N {ns ls:List Pr} {k:Int} (h:zT ns ls k=true):∃m p q t u:Nat,k=(m:Int)/\hasN ns ls k=true/\JoinAt ns ls m p q t u:=by
 unfold zT at h;rw[aaG] at h;obtain⟨hk,h2⟩:=deg2 (of_decide_eq_true h.1);obtain⟨hw,m,rfl,hm⟩:=kW hk;obtain⟨p,q,t,u,a1,a2,a3,a4,a5,a6,a7,a8,a9,a10⟩:=Vp (zq.1 hw) h2;exact⟨m,p,q,t,u,rfl,hk,zq.1 hw,hm,a1,a2,a3,a4,a5,a6,a7,a8,a9,a10⟩
theorem JoinAt.bound {ns ls:List Pr} {m p q t u:Nat} (h:JoinAt ns ls m p q t u) (j:Nat) (hj:j<((ls.set p (mn2 (t:Int) u,mx2 (t:Int) u)).take q++(ls.set p (mn2 (t:Int) u,mx2 (t:Int) u)).drop (q+1)).length):
  (-1000000<=(ndI ((ls.set p (mn2 (t:Int) u,mx2 (t:Int) u)).take q++(ls.set p (mn2 (t:Int) u,mx2 (t:Int) u)).drop (q+1)) j).1/\(ndI ((ls.set p (mn2 (t:Int) u,mx2 (t:Int) u)).take q++(ls.set p (mn2 (t:Int) u,mx2 (t:Int) u)).drop (q+1)) j).1<=1000000)/\(-1000000<=(ndI ((ls.set p (mn2 (t:Int) u,mx2 (t:Int) u)).take q++(ls.set p (mn2 (t:Int) u,mx2 (t:Int) u)).drop (q+1)) j).2/\(ndI ((ls.set p (mn2 (t:Int) u,mx2 (t:Int) u)).take q++(ls.set p (mn2 (t:Int) u,mx2 (t:Int) u)).drop (q+1)) j).2<=1000000):=by
 have hq:q<(ls.set p (mn2 (t:Int) u,mx2 (t:Int) u)).length :=by simpa using h.hq
 rw[Jn hq j hj];have Bj:j<ls.length -1:=by simp at hj;have:=h.hq;omega
 generalize hi:(if j<q then j else j+1)=i;have Fs:i<ls.length:=by split at hi<;>omega
 rw[z0C ls p _ i Fs];have mJ:=h.win.2.1;have ht:=h.ht;have hu:=h.hu
 by_cases wI:i=p
 ·rw[aao wI];dsimp only;rw[Qe,vr];omega
 ·rw[aaq wI]
  have hl:=zZ.1 (h.win.2.2.2.2.2 i Fs).1;omega
theorem JoinAt.free {ns ls:List Pr} {m p q t u:Nat} (h:JoinAt ns ls m p q t u) (j:Nat) (hj:j<((ls.set p (mn2 (t:Int) u,mx2 (t:Int) u)).take q++(ls.set p (mn2 (t:Int) u,mx2 (t:Int) u)).drop (q+1)).length):
  (ndI ((ls.set p (mn2 (t:Int) u,mx2 (t:Int) u)).take q++(ls.set p (mn2 (t:Int) u,mx2 (t:Int) u)).drop (q+1)) j).1≠m/\(ndI ((ls.set p (mn2 (t:Int) u,mx2 (t:Int) u)).take q++(ls.set p (mn2 (t:Int) u,mx2 (t:Int) u)).drop (q+1)) j).2≠m:=by
 have hq:q<(ls.set p (mn2 (t:Int) u,mx2 (t:Int) u)).length :=by simpa using h.hq
 rw[Jn hq j hj];have Bj:j<ls.length -1:=by simp at hj;have:=h.hq;omega
 generalize hi:(if j<q then j else j+1)=i;have Fs:i<ls.length:=by split at hi<;>omega
 have hiq:i≠q:=by split at hi<;>omega
 rw[z0C ls p _ i Fs];have ht:=h.tk;have hu:=h.uk
 by_cases wI:i=p
 ·rw[aao wI];dsimp only;unfold mn2 mx2;constructor<;>split<;>assumption
 ·rw[aaq wI]
  have G6:jN ls m i=false:=by
   cases htb:jN ls m i
   ·rfl
   ·have:=z0z ls m ls.length i Fs htb
    rw[h.at_] at this;simp at this
    omega
  simpa[jN,not_or] using G6
theorem JoinAt.joinX {ns ls:List Pr} {m p q t u:Nat} (h:JoinAt ns ls m p q t u):joinX ls m p q=(mn2 (t:Int) u,mx2 (t:Int) u):=by
 simp[Proofs.YtnjcpljhmhdhkaaGreat.joinX,h.ot,h.ou]
theorem JoinAt.cn {ns ls:List Pr} {m p q t u:Nat} (h:JoinAt ns ls m p q t u):xe ns m=ns.take m++ns.drop (m+1):=by
 unfold xe;rw[z6T ns m _ (aaa _),aaA,List.eraseIdx_eq_take_drop_succ]
theorem JoinAt.cl {ns ls:List Pr} {m p q t u:Nat} (h:JoinAt ns ls m p q t u):xv ls m=jwo ls m p q (mn2 (t:Int) u,mx2 (t:Int) u) ls.length:=by
 have hM:Xm ls m=(ls.set p (mn2 (t:Int) u,mx2 (t:Int) u)).take q++(ls.set p (mn2 (t:Int) u,mx2 (t:Int) u)).drop (q+1):=by
  unfold Xm;rw[h.at_];simp only[h.joinX]
 have hT:(ls.set p (mn2 (t:Int) u,mx2 (t:Int) u)).take ls.length=ls.set p (mn2 (t:Int) u,mx2 (t:Int) u):=aaK (by simp);unfold xv;rw[hM,z79 _ _ h.free _ (aaa _),z6Y _ _ _ _ _ _ (aaa _),aaA,hT,List.eraseIdx_eq_take_drop_succ]
theorem z4G (vn vl:Value) (ns ls:List Pr) (k:Int) (w:World) (hn:RP w vn ns) (hl:RP w vl ls) (h1:ns.length<=1048576) (h2:ls.length<=1048576):
  Calls Tryz.prog 163 #[.agg #[vn,vl],.int .i64 k] w (fun e w'=>zG (qo ns ls k) (qp ns ls k) (z9C ns ls k) w e w'):=by
 cases hs:zT ns ls k
 ·have EB:z9C ns ls k=false:=by unfold z9C;rw[hs];rfl
  have EN:qo ns ls k=ns:=by unfold qo;rw[EB];rfl
  have EL:qp ns ls k=ls:=by unfold qp;rw[EB];rfl
  rw[EB,EN,EL];exact z6C vn vl ns ls k w hn hl h1 h2 hs
 ·obtain⟨m,p,q,t,u,rfl,hk,h⟩:=z2N hs
  exact z4E vn vl ns ls m p q t u w hn hl h1 h2 hs hk h.at_ h.hp h.hq h.ends h.bound
attribute [local go_sem ↓] zr zt zR zQ
theorem QC (vn vl:Value) (ns ls:List Pr) (k:Int) (b:Bool) (w:World) (hn:RP w vn ns) (hl:RP w vl ls) (hb:zT ns ls k=b):
  CB_ 186 #[.agg #[vn,vl],.int .i64 k] w (.bool b):=by
 subst hb;exact VW vn vl ns ls k w hn hl
theorem z77 (vn vl:Value) (ns ls:List Pr) (k:Int) (w:World) (hn:RP w vn ns) (hl:RP w vl ls) (h1:ns.length<=1048576) (h2:ls.length<=1048576) (hw:zT ns ls k=false):
  Calls Tryz.prog 109 #[.agg #[vn,vl],.int .i64 k] w (zG ns ls false w):=by
 go_enter Tryz.func109,Tryz.ntmps109
 go_wp2_with fail
 refine(QC _ _ ns ls _ _ _ (hn.below bel_) (hl.below bel_) hw).mono ?_
 rintro e w1 ⟨rfl,h9⟩;have Ht:=h9.size;simp at Ht
 have GM:Blk w1 w.heap.size 27 #[vn,vl]:=Blk.below ((Blk.newAt rfl).alloc _) h9 sz_;have Hx:Blk w1 (w.heap.size+1) 27 #[.slice none 0 0,.slice none 0 0]:=Blk.below (Blk.newAt (by simp)) h9 sz_;have h8:Below w.heap.size w w1:=bel_
 clear h9;have n2:w.heap.size+1<w1.heap.size:=o_
 obtain⟨a_0,a_1⟩:=GM.c2
 go_wp2_with fail
 refine(zU _ _ ns ls _ (hn.below h8) (hl.below h8) h1 h2).mono ?_
 rintro e w2 ⟨An1,cn1,Al1,cl1,rfl,Hk,Hd⟩;have gg:=Hx.below Hd n2;have Ha:=h8.trans (Hd.mono h8.size);have hO:=h_ (((Hk.setLow (p:=⟨w.heap.size+1,0,none⟩) n2 (.slice An1 ns.length cn1)).setLow (p:=⟨w.heap.size+1,1,none⟩) n2 (.slice Al1 ls.length cl1)).mono (show w.heap.size<=_ by omega));have HB:=h_ ((Ha.setCell (p:=⟨w.heap.size+1,0,none⟩) sz_ (.slice An1 ns.length cn1)).setCell (p:=⟨w.heap.size+1,1,none⟩) sz_ (.slice Al1 ls.length cl1));clear Hk Ha Hd GM Hx h8 a_0 a_1;obtain⟨r_0,r_1,r_f0,r_f1⟩:=gg.b2;go_wp2;exact bodyPost_ret (v:= .tuple #[.agg #[.slice An1 ns.length cn1,.slice Al1 ls.length cl1],.bool false]) (by simp[results,Tryz.results109,go_sem,r_0,r_1]) rfl ⟨_,_,_,_,rfl,hO.out,HB.out⟩
def BoxN (w0 w:World) (v:Value) (l:List Pr):Prop:=OwnP 106 w0.heap.size w v l/\Below w0.heap.size w0 w
def BoxO (w0:World) (y:Nat) (w:World) (v:Value) (l:List Pr):Prop:=
 OwnP 106 w0.heap.size w v l/\Below w0.heap.size w0 w/\Blk w y 27 #[.slice none 0 0,.slice none 0 0]/\w0.heap.size<=y/\∀k,v.ownBlock=some k->¬k=y
theorem BoxN.box {w0 w:World} {v:Value} {l:List Pr} {y:Nat} (h:BoxN w0 w v l) (hy:y=w.heap.size):BoxO w0 y (w.alloc (.cells #[.slice none 0 0,.slice none 0 0] 27)) v l:=by
 subst hy;exact⟨h.1.alloc _,h.2.alloc h.2.size _,Blk.newAt rfl,h.2.size,fun k hk e=>by have:=(h.1.lt k hk).2;omega⟩
theorem BoxN.start (w0:World) {g:Nat} (hg:g=w0.heap.size):BoxN w0 (w0.drew.alloc (.cells #[] 106)) (.slice (some ⟨g,0,none⟩) 0 0) []:=by
 subst hg;exact⟨OwnP.made rfl (aaa _),Below.alloc (Below.drew (aaj _ _)) (aaa _) _⟩
theorem BoxO.start (w0:World) {g y:Nat} (hg:g=w0.heap.size+1) (hy:y=w0.heap.size):
  BoxO w0 y ((w0.drew.alloc (.cells #[.slice none 0 0,.slice none 0 0] 27)).alloc (.cells #[] 106)) (.slice (some ⟨g,0,none⟩) 0 0) []:=by
 subst hg hy;exact⟨OwnP.made (by simp) (by simp),Below.alloc (Below.alloc (Below.drew (aaj _ _)) (aaa _) _) (by simp) _,(Blk.newAt rfl).alloc _,aaa _,fun k hk e=>by cases hk;exact absurd (show w0.heap.size+1=w0.heap.size from e) o_⟩
theorem jS {P:Program} {w:World} {ops:Array Oper} {o:Oper} {a:Act} {K:Act->World->Prop} {Q:Exit->Act->World->Prop} {E:Prop} (fY:o.guard=none) (s x:Operand) (t:TypeId)
  (ho:o.op= .call { callee:= .builtin .append,args:= #[s,x],argTypes:= #[t,t] })
  (i:TypeInfo) (ht:P.underlying t=some (.slice 106)) (hi:P.info? 106=some i) (hz:i.zero=some (.agg #[.int .i64 0,.int .i64 0])) (Hs:i.size=2) (GN:i.bytes=16)
  (w0:World) (v u:Value) (xs l:List (Int×Int)) (hs:a.eval s=v) (hx:a.eval x=u) (hB:BoxN w0 w v xs) (hr:RP w0 u l) (Hj:xs.length+l.length<=1048576+1048576)
  (h:∀A c w',BoxN w0 w' (.slice A (xs++l).length c) (xs++l)->K (a.put o.dst (.slice A (xs++l).length c)) w'):
  if Region.wanted o (yielded ops a.tmps)=true then Oper.wp P o a w K Q else E:=
 zk fY s x t ho w0.heap.size 106 i ht hi hz Hs GN v u xs l hs hx hB.1 (hr.below hB.2) Hj hB.2.size
  fun A c w' FA hg _=>h A c w' ⟨FA,hB.2.grown hg hB.2.size (fun k hk=>(hB.1.lt k hk).1)⟩
theorem qc {P:Program} {w:World} {ops:Array Oper} {o:Oper} {a:Act} {K:Act->World->Prop} {Q:Exit->Act->World->Prop} {E:Prop} (fY:o.guard=none) (s x:Operand) (t:TypeId)
  (ho:o.op= .call { callee:= .builtin .append,args:= #[s,x],argTypes:= #[t,t] })
  (i:TypeInfo) (ht:P.underlying t=some (.slice 106)) (hi:P.info? 106=some i) (hz:i.zero=some (.agg #[.int .i64 0,.int .i64 0])) (Hs:i.size=2) (GN:i.bytes=16)
  (w0:World) (y:Nat) (v u:Value) (xs l:List (Int×Int)) (hs:a.eval s=v) (hx:a.eval x=u) (hB:BoxO w0 y w v xs) (hr:RP w0 u l) (Hj:xs.length+l.length<=1048576+1048576)
  (h:∀A c w',BoxO w0 y w' (.slice A (xs++l).length c) (xs++l)->K (a.put o.dst (.slice A (xs++l).length c)) w'):
  if Region.wanted o (yielded ops a.tmps)=true then Oper.wp P o a w K Q else E:=
 zk fY s x t ho w0.heap.size 106 i ht hi hz Hs GN v u xs l hs hx hB.1 (hr.below hB.2.1) Hj hB.2.1.size
  fun A c w' FA hg ha=>h A c w' ⟨FA,hB.2.1.grown hg hB.2.1.size (fun k hk=>(hB.1.lt k hk).1),hB.2.2.1.grownR hg hB.2.2.2.2,hB.2.2.2.1,fun k hk e=>by
   subst e
   rcases ha with ha|ha
   ·exact hB.2.2.2.2 k (ha.symm.trans hk) rfl
   ·rw[ha] at hk;cases hk;exact aaV _ hB.2.2.1.lt⟩
theorem BoxO.filled {w0 w:World} {y:Nat} {v:Value} {l:List Pr} (h:BoxO w0 y w v l):
  w0.heap.size<=y/\Below w0.heap.size w0 ((w.setCell ⟨y,0,none⟩ v).setCell ⟨y,1,none⟩ (.slice none 0 0))/\
   Blk ((w.setCell ⟨y,0,none⟩ v).setCell ⟨y,1,none⟩ (.slice none 0 0)) y 27 #[v,.slice none 0 0]/\
   OwnP 106 w0.heap.size ((w.setCell ⟨y,0,none⟩ v).setCell ⟨y,1,none⟩ (.slice none 0 0)) v l/\∀k,v.ownBlock=some k->¬k=y:=
 ⟨h.2.2.2.1,(h.2.1.setCell (p:=⟨y,0,none⟩) h.2.2.2.1 _).setCell (p:=⟨y,1,none⟩) h.2.2.2.1 _,(h.2.2.1.set_ 0 _).set_ 1 _,
  (h.1.apart (qS w ⟨y,0,none⟩ v) (fun k hk e=>by cases e;exact h.2.2.2.2 _ hk rfl)).apart (qS _ ⟨y,1,none⟩ _) (fun k hk e=>by cases e;exact h.2.2.2.2 _ hk rfl),h.2.2.2.2⟩
theorem BoxN.filled {w0 w:World} {v:Value} {l:List Pr} (h:BoxN w0 w v l):
  w0.heap.size<=w.heap.size/\Below w0.heap.size w0 (w.alloc (.cells #[v,.slice none 0 0] 27))/\
   Blk (w.alloc (.cells #[v,.slice none 0 0] 27)) w.heap.size 27 #[v,.slice none 0 0]/\
   OwnP 106 w0.heap.size (w.alloc (.cells #[v,.slice none 0 0] 27)) v l/\∀k,v.ownBlock=some k->¬k=w.heap.size:=
 ⟨h.2.size,h.2.alloc h.2.size _,Blk.newAt rfl,h.1.alloc _,fun k hk e=>by have:=(h.1.lt k hk).2;omega⟩
theorem vM {x:Nat} {w4 wr w3:World} {N G:List Pr} {A A' A3:Option Addr} {c c' c3:Nat} {o1 o2:Obj} {z:Pr} (hx:w4.heap.size<=x)
  (hO:Blk wr x 27 #[.slice A N.length c,.slice A' G.length c']) (cH:∀k,zi (.slice A N.length c) (.slice A' G.length c') k->¬k=x) (hb:Below w4.heap.size w4 wr)
  (ho:OwnW w4.heap.size wr (.slice A N.length c) (.slice A' G.length c') N G)
  (Hm:OwnP 108 w4.heap.size w3 (.slice A3 (G.length+1) c3) (G++[z])) (gn:((wr.alloc o1).alloc o2).grownBy w3 (Value.slice A' G.length c').ownBlock)
  (fA:(Value.slice A3 (G.length+1) c3).ownBlock =(Value.slice A' G.length c').ownBlock ∨(Value.slice A3 (G.length+1) c3).ownBlock =some (wr.heap.size+1+1)):
  OwnW w4.heap.size (w3.setCell ⟨x,1,none⟩ (.slice A3 (G.length+1) c3)) (.slice A N.length c) (.slice A3 (G++[z]).length c3) N (G++[z])/\
  Blk (w3.setCell ⟨x,1,none⟩ (.slice A3 (G.length+1) c3)) x 27 #[.slice A N.length c,.slice A3 (G++[z]).length c3]/\(∀k,zi (.slice A N.length c) (.slice A3 (G++[z]).length c3) k->¬k=x)/\
  Below w4.heap.size w4 (w3.setCell ⟨x,1,none⟩ (.slice A3 (G.length+1) c3))/\Blk w3 x 27 #[.slice A N.length c,.slice A' G.length c']:=by
 rw[show G.length+1=(G++[z]).length by simp] at fA Hm;have hxl:=hO.lt;have hbs:=hb.size;have GH:=((hO.alloc o1).alloc o2).grownR gn (fun k hk=>cH k (.inr hk));have YK:=((ho.1.alloc o1).alloc o2).apart gn (fun k hk gG=>ho.2.2 k hk gG);have He:Below w4.heap.size w4 w3:=((hb.alloc hbs _).alloc sz_ _).grown gn sz_ (fun k hk=>(ho.2.1.lt k hk).1)
 have NC:∀k,(Value.slice A N.length c).ownBlock =some k->(Value.slice A3 (G++[z]).length c3).ownBlock =some k->False:=fun k hk gG=>by
  have Hf:=(ho.1.lt k hk).2
  rcases fA with ha|ha
  ·exact ho.2.2 k hk (ha.symm.trans gG)
  ·rw[ha] at gG
   simp at gG
   omega
 have hy3:∀k,zi (.slice A N.length c) (.slice A3 (G++[z]).length c3) k->¬k=x:=by
  rintro k (hk|hk)
  ·exact cH k (.inl hk)
  ·intro e
   rcases fA with ha|ha
   ·exact cH k (.inr (ha.symm.trans hk)) e
   ·rw[ha] at hk
    simp at hk
    omega
 refine⟨OwnW.setFar ⟨YK,Hm,NC⟩ (fun h=>hy3 _ h rfl) _,?_,hy3,He.setCell (p:=⟨x,1,none⟩) hx _,GH⟩
 rw[show(G++[z]).length =G.length+1 by simp];exact GH.set_ 1 _
theorem z51 (vl:Value) (ns ls T D:List Pr) (b off cn m p q t u:Nat) (w:World) (hn:RP w (.slice (some ⟨b,off,none⟩) ns.length cn) ns) (hl:RP w vl ls) (h1:ns.length<=1048576) (h2:ls.length<=1048576)
  (Fk:ns.length<=cn) (hT:RP w (.slice (some ⟨b,off,none⟩) m cn) T) (cX:Hid (T.length=m)) (hD:RP w (.slice (if cn=m+1 then some ⟨b,off,none⟩ else some ⟨b,off+(m+1)*2,none⟩) (ns.length -(m+1)) (cn -(m+1))) D) (nJ:Hid (D.length=ns.length -(m+1)))
  (hs:zT ns ls m=true) (hk:hasN ns ls m=true) (h:JoinAt ns ls m p q t u) (hTD:Hid (xe ns m=T++D)):
  Calls Tryz.prog 109 #[.agg #[.slice (some ⟨b,off,none⟩) ns.length cn,vl],.int .i64 m] w (fun e w'=>zG (qo ns ls m) (qp ns ls m) (z9C ns ls m) w e w'):=by
 obtain⟨i0,hi,iz0,iz1,iz2⟩:=info_parts ko;obtain⟨j0,hj,jz0,jz1,jz2⟩:=info_parts jb;obtain⟨Al,cl,rfl,Hy,Gz,H9⟩:=hl.formI;unfold maxLen at Gz;have hp:=h.hp;have hq:=h.hq;have hm:=h.hm;have Fg:=h_ h.at_;have Rz:=h_ h.ot;have UC:=h_ h.ou;have cZ:=h_ h.cl;have nM:(t:Int)<12:=by have:=h.ht;have:=h.win.2.1;omega
 have hu2:(u:Int)<12:=by have:=h.hu;have:=h.win.2.1;omega
 have Bt:=h.win.2.1
 have bH:Hid (∀j:Nat,j<ls.length->(-1000000<=(ndI ls j).1/\(ndI ls j).1<=1000000)/\(-1000000<=(ndI ls j).2/\(ndI ls j).2<=1000000)):=h_ (fun j hj=>by
  have hl:=zZ.1 (h.win.2.2.2.2.2 j hj).1;omega)
 clear h;obtain⟨bl,offl,rfl,Hb,Gj⟩:=H9 o_;obtain⟨k0,k1⟩:=Gj p hp;obtain⟨k2,k3⟩:=Gj q hq;clear H9;have Fo:=h_ Gj;clear Gj
 go_enter Tryz.func109,Tryz.ntmps109
 go_wp2_with fail
 refine(QC _ _ ns ls _ _ _ (hn.below bel_) (hl.below bel_) hs).mono ?_
 rintro e w1 ⟨rfl,h9⟩;have Ht:=h9.size;simp at Ht
 have GM:Blk w1 w.heap.size 27 #[.slice (some ⟨b,off,none⟩) ns.length cn,.slice (some ⟨bl,offl,none⟩) ls.length cl]:=Blk.below ((Blk.newAt rfl).alloc _) h9 sz_;have Hx:Blk w1 (w.heap.size+1) 27 #[.slice none 0 0,.slice none 0 0]:=Blk.below (Blk.newAt (by simp)) h9 sz_;have h8:Below w.heap.size w w1:=bel_
 clear h9;have n1:w.heap.size<w1.heap.size:=o_
 have n2:w.heap.size+1<w1.heap.size:=o_
 obtain⟨a_0,a_1⟩:=GM.c2
 go_wp2_with fail
 refine(kv _ _ ns ls _ _ (hn.below h8) (hl.below h8) hk).mono ?_
 rw[Fg.out];rintro e w2 ⟨v2,rfl,Hk,Hd⟩;have Ft:=GM.below Hd n1;have gg:=Hx.below Hd n2;have Ha:=h8.trans (Hd.mono h8.size);obtain⟨A2,c2,e2,gE,_,GE⟩:=Hk.reads.form;subst e2;obtain⟨b2,o2,rfl,Mz,Gp⟩:=GE (by simp[natI]);have y0:=Gp 0 (by simp[natI]);have y1:=Gp 1 (by simp[natI]);simp only[natI,aaS,aaT,List.getD_cons_zero,List.getD_cons_succ,aaf,aaU,List.length_nil,aaF] at y0 y1 gE
 clear GE Gp Hd GM Hx h8 a_0 a_1 Hk;rw[show(natI [p,q]).length =2 from rfl];have n1:w.heap.size<w2.heap.size:=Ft.lt;have n2:w.heap.size+1<w2.heap.size:=gg.lt;have c1:(0:Int)<=(p:Int):=o_
 have c3:(p:Int)<(ls.length:Int):=o_
 have g1:bl<w2.heap.size:=o_
 have x0:=(Ha.cell (p:=⟨bl,offl+p*2,none⟩) Hb).trans k0;have x1:=(Ha.cell (p:=⟨bl,offl+p*2+1,none⟩) Hb).trans k1;obtain⟨a_0,a_1⟩:=Ft.c2
 go_wp2_with fail
 (refine z7 k_ k_ (fun hG=>?_))
 repeat (go_big_quiet_step ((go_at_call 188;exact zI (xV (ndI ls p) _ _ _ Rz.out))))
 (refine wpQuiet_nil ?_);(clear hG);(rintro w3 ⟨⟨_,He⟩,rfl⟩);(try dsimp only);have G5:=He.size;(try simp at G5);(try have Fw:=p0_ w w3);(try have Fy:=p1_ w w3)
 have cj:=Ft.below He n1;have gZ:=gg.below He n2;have Hc:=Ha.trans (He.mono Ha.size);have y0':=(He.cell (p:=⟨b2,o2,none⟩) Mz).trans y0;have y1':=(He.cell (p:=⟨b2,o2+1,none⟩) Mz).trans y1;have g2:b2<w3.heap.size:=o_
 have n1:w.heap.size<w3.heap.size:=cj.lt;have n2:w.heap.size+1<w3.heap.size:=gZ.lt;have c1:(0:Int)<=(q:Int):=o_
 have c3:(q:Int)<(ls.length:Int):=o_
 have g1:bl<w3.heap.size:=o_
 clear x0 x1;have x0:=(Hc.cell (p:=⟨bl,offl+q*2,none⟩) Hb).trans k2;have x1:=(Hc.cell (p:=⟨bl,offl+q*2+1,none⟩) Hb).trans k3;clear He Fw Fy Ft gg Ha a_0 a_1 y0 y1 k0 k1 k2 k3;obtain⟨a_0,a_1⟩:=cj.c2
 go_wp2_with fail
 (refine z7 k_ k_ (fun hG=>?_))
 repeat (go_big_quiet_step ((go_at_call 188;exact zI (xV (ndI ls q) _ _ _ UC.out))))
 (refine wpQuiet_nil ?_);(clear hG);(rintro w4 ⟨⟨_,Hw⟩,rfl⟩);(try dsimp only);have bv:=Hw.size;(try simp at bv)
 have mt:=cj.below Hw n1;have fF:=gZ.below Hw n2;have Hn:=Hc.trans (Hw.mono Hc.size);have y0:=(Hw.cell (p:=⟨b2,o2,none⟩) g2).trans y0';have y1:=(Hw.cell (p:=⟨b2,o2+1,none⟩) g2).trans y1';have g2':b2<w4.heap.size:=o_
 have n1:w.heap.size<w4.heap.size:=mt.lt;have n2:w.heap.size+1<w4.heap.size:=fF.lt;clear Hw cj gZ Hc a_0 a_1 y0' y1' x0 x1 g2;obtain⟨a_0,a_1⟩:=mt.c2
 go_wp2_with fail
 have RW:=h_ (hT.below Hn);have RX:=hD.below Hn;clear hT hD
 go_cut [9] (fun s9 wx=>∃(x:Nat) (A:Option Addr) (c:Nat),s9= .pointer (some ⟨x,0,none⟩)/\w4.heap.size<=x/\Below w4.heap.size w4 wx/\
   Blk wx x 27 #[.slice A (T.length+D.length) c,.slice none 0 0]/\OwnP 106 w4.heap.size wx (.slice A (T.length+D.length) c) (T++D)/\∀k,(Value.slice A (T.length+D.length) c).ownBlock =some k->¬k=x)
 case first=>
  have c2:(0:Int)<=(m:Int):=o_
  have c4:(m:Int)+1<=(ns.length:Int):=o_
  have c1':(m:Int)<=(m:Int)+1:=o_
  have c5:(0:Int)<=(m:Int)+1:=o_
  have c6:((m:Int)+1).toNat =m+1:=o_
  have BJ:IntKind.i64.wrap ((m:Int)+1)=(m:Int)+1:=aaP _ o_;have ne4:¬w4.heap.size=w.heap.size:=o_
  have ne41:¬w4.heap.size+1=w.heap.size:=o_
  by_cases G8:cn=m+1
  ·subst G8
   rw[aao rfl,show ns.length -(m+1)=0 by omega,aae] at RX;have RY:=h_ RX;clear RX
   go_region_held3 (fun w'=>w'.cell? ⟨w.heap.size,0,none⟩=some (.slice (some ⟨b,off,none⟩) ns.length (m+1)))
    (go_keep)
    (first|(refine qc rfl _ _ _ rfl i0 Tryz.underlying24 hi iz0 iz1 iz2 w4 w4.heap.size (.slice (some ⟨_,0,none⟩) 0 0) (.slice (some ⟨b,off,none⟩) m (m+1)) [] T rfl rfl (BoxO.start w4 (by simp) rfl) RW.out (by simp;have:=cX.out;omega) ?_;intro A3 c3 w3 GO;have ND:=h_ GO;clear GO;(have He:=ND.out.2.1);(have Gy:=fun (b o:Nat) (h:b<w4.heap.size)=>He.cell (p:=⟨b,o,none⟩) h);clear He)|(refine qc rfl _ _ _ rfl i0 Tryz.underlying24 hi iz0 iz1 iz2 w4 (w4.heap.size+1) (.slice (some ⟨_,0,none⟩) 0 0) (.slice (some ⟨b,off,none⟩) m (m+1)) [] T rfl rfl ((BoxN.start w4 (by simp)).box (by simp)) RW.out (by simp;have:=cX.out;omega) ?_;intro A3 c3 w3 GO;have ND:=h_ GO;clear GO;(have He:=ND.out.2.1);(have Gy:=fun (b o:Nat) (h:b<w4.heap.size)=>He.cell (p:=⟨b,o,none⟩) h);clear He)|(refine jS rfl _ _ _ rfl i0 Tryz.underlying24 hi iz0 iz1 iz2 w4 (.slice (some ⟨_,0,none⟩) 0 0) (.slice (some ⟨b,off,none⟩) m (m+1)) [] T rfl rfl (BoxN.start w4 (by simp)) RW.out (by simp;have:=cX.out;omega) ?_;intro A3 c3 w3 GO;have RZ:=h_ GO;clear GO;(have He:=RZ.out.2);(have Gy:=fun (b o:Nat) (h:b<w4.heap.size)=>He.cell (p:=⟨b,o,none⟩) h);(have G5:=He.size);(have p3:w.heap.size<w3.heap.size:=by omega);(have ne3:¬w3.heap.size=w.heap.size:=by omega);clear He)|(refine qc rfl _ _ _ rfl i0 Tryz.underlying24 hi iz0 iz1 iz2 w4 _ (.slice A3 T.length c3) (.slice (some ⟨b,off,none⟩) 0 0) T D rfl rfl ND.out RY.out (by have:=cX.out;have:=nJ.out;omega) ?_;intro A5 c5 w5 fg;have fX:=h_ fg;clear fg;(have H0:=fX.out.2.1);(have ci:=fun (b o:Nat) (h:b<w4.heap.size)=>H0.cell (p:=⟨b,o,none⟩) h);clear H0;(have zf0:=fX.out.2.2.1.frozen 0);(have zf1:=fX.out.2.2.1.frozen 1);(have zc0:=fX.out.2.2.1.cell 0);(have zc1:=fX.out.2.2.1.cell 1))|(refine qc rfl _ _ _ rfl i0 Tryz.underlying24 hi iz0 iz1 iz2 w4 w3.heap.size (.slice A3 T.length c3) (.slice (some ⟨b,off,none⟩) 0 0) T D rfl rfl (RZ.out.box rfl) RY.out (by have:=cX.out;have:=nJ.out;omega) ?_;intro A5 c5 w5 fg;have fX:=h_ fg;clear fg;(have H0:=fX.out.2.1);(have ci:=fun (b o:Nat) (h:b<w4.heap.size)=>H0.cell (p:=⟨b,o,none⟩) h);clear H0;(have zf0:=fX.out.2.2.1.frozen 0);(have zf1:=fX.out.2.2.1.frozen 1);(have zc0:=fX.out.2.2.1.cell 0);(have zc1:=fX.out.2.2.1.cell 1))|(refine jS rfl _ _ _ rfl i0 Tryz.underlying24 hi iz0 iz1 iz2 w4 (.slice A3 T.length c3) (.slice (some ⟨b,off,none⟩) 0 0) T D rfl rfl RZ.out RY.out (by have:=cX.out;have:=nJ.out;omega) ?_;intro A5 c5 w5 fg;have wJ:=h_ fg;clear fg;(have H0:=wJ.out.2);(have ci:=fun (b o:Nat) (h:b<w4.heap.size)=>H0.cell (p:=⟨b,o,none⟩) h);clear H0))
   all_goals go_wp2
   all_goals go_meet
   all_goals (first|(have hF:=fX.out.filled;rw[aaW] at hF;exact⟨_,A5,c5,rfl,hF⟩)|(have hF:=wJ.out.filled;rw[aaW] at hF;exact⟨_,A5,c5,rfl,hF⟩))
  ·have c1:(m:Int)<=(cn:Int):=o_
   rw[aaq G8] at RX;have RY:=h_ RX;clear RX
   go_region_held3 (fun w'=>w'.cell? ⟨w.heap.size,0,none⟩=some (.slice (some ⟨b,off,none⟩) ns.length cn))
    (go_keep)
    (first|(refine qc rfl _ _ _ rfl i0 Tryz.underlying24 hi iz0 iz1 iz2 w4 w4.heap.size (.slice (some ⟨_,0,none⟩) 0 0) (.slice (some ⟨b,off,none⟩) m cn) [] T rfl rfl (BoxO.start w4 (by simp) rfl) RW.out (by simp;have:=cX.out;omega) ?_;intro A3 c3 w3 GO;have ND:=h_ GO;clear GO;(have He:=ND.out.2.1);(have Gy:=fun (b o:Nat) (h:b<w4.heap.size)=>He.cell (p:=⟨b,o,none⟩) h);clear He)|(refine qc rfl _ _ _ rfl i0 Tryz.underlying24 hi iz0 iz1 iz2 w4 (w4.heap.size+1) (.slice (some ⟨_,0,none⟩) 0 0) (.slice (some ⟨b,off,none⟩) m cn) [] T rfl rfl ((BoxN.start w4 (by simp)).box (by simp)) RW.out (by simp;have:=cX.out;omega) ?_;intro A3 c3 w3 GO;have ND:=h_ GO;clear GO;(have He:=ND.out.2.1);(have Gy:=fun (b o:Nat) (h:b<w4.heap.size)=>He.cell (p:=⟨b,o,none⟩) h);clear He)|(refine jS rfl _ _ _ rfl i0 Tryz.underlying24 hi iz0 iz1 iz2 w4 (.slice (some ⟨_,0,none⟩) 0 0) (.slice (some ⟨b,off,none⟩) m cn) [] T rfl rfl (BoxN.start w4 (by simp)) RW.out (by simp;have:=cX.out;omega) ?_;intro A3 c3 w3 GO;have RZ:=h_ GO;clear GO;(have He:=RZ.out.2);(have Gy:=fun (b o:Nat) (h:b<w4.heap.size)=>He.cell (p:=⟨b,o,none⟩) h);(have G5:=He.size);(have p3:w.heap.size<w3.heap.size:=by omega);(have ne3:¬w3.heap.size=w.heap.size:=by omega);clear He)|(refine qc rfl _ _ _ rfl i0 Tryz.underlying24 hi iz0 iz1 iz2 w4 _ (.slice A3 T.length c3) (.slice (some ⟨b,off+(m+1)*2,none⟩) (ns.length -(m+1)) (cn -(m+1))) T D rfl rfl ND.out RY.out (by have:=cX.out;have:=nJ.out;omega) ?_;intro A5 c5 w5 fg;have fX:=h_ fg;clear fg;(have H0:=fX.out.2.1);(have ci:=fun (b o:Nat) (h:b<w4.heap.size)=>H0.cell (p:=⟨b,o,none⟩) h);clear H0;(have zf0:=fX.out.2.2.1.frozen 0);(have zf1:=fX.out.2.2.1.frozen 1);(have zc0:=fX.out.2.2.1.cell 0);(have zc1:=fX.out.2.2.1.cell 1))|(refine qc rfl _ _ _ rfl i0 Tryz.underlying24 hi iz0 iz1 iz2 w4 w3.heap.size (.slice A3 T.length c3) (.slice (some ⟨b,off+(m+1)*2,none⟩) (ns.length -(m+1)) (cn -(m+1))) T D rfl rfl (RZ.out.box rfl) RY.out (by have:=cX.out;have:=nJ.out;omega) ?_;intro A5 c5 w5 fg;have fX:=h_ fg;clear fg;(have H0:=fX.out.2.1);(have ci:=fun (b o:Nat) (h:b<w4.heap.size)=>H0.cell (p:=⟨b,o,none⟩) h);clear H0;(have zf0:=fX.out.2.2.1.frozen 0);(have zf1:=fX.out.2.2.1.frozen 1);(have zc0:=fX.out.2.2.1.cell 0);(have zc1:=fX.out.2.2.1.cell 1))|(refine jS rfl _ _ _ rfl i0 Tryz.underlying24 hi iz0 iz1 iz2 w4 (.slice A3 T.length c3) (.slice (some ⟨b,off+(m+1)*2,none⟩) (ns.length -(m+1)) (cn -(m+1))) T D rfl rfl RZ.out RY.out (by have:=cX.out;have:=nJ.out;omega) ?_;intro A5 c5 w5 fg;have wJ:=h_ fg;clear fg;(have H0:=wJ.out.2);(have ci:=fun (b o:Nat) (h:b<w4.heap.size)=>H0.cell (p:=⟨b,o,none⟩) h);clear H0))
   all_goals go_wp2
   all_goals go_meet
   all_goals (first|(have hF:=fX.out.filled;rw[aaW] at hF;exact⟨_,A5,c5,rfl,hF⟩)|(have hF:=wJ.out.filled;rw[aaW] at hF;exact⟨_,A5,c5,rfl,hF⟩))
 case rest=>
  obtain⟨x,A,c,rfl,hx,f9,hO,cU,hax⟩:=hcut;obtain⟨w6,F4⟩:∃w6:World,w6=wc:=⟨_,rfl⟩;subst F4;obtain⟨N,HN⟩:∃N,N=T++D:=⟨_,rfl⟩;rw[<-HN] at cU hTD;have wK:T.length+D.length=N.length:=by rw[HN,aaW]
  rw[wK] at hO cU hax;clear HN wK RW RX;go_wp2
  go_loopw [10] (fun i wr=>∃j:Nat,j<=ls.length/\i= .int .i64 j/\∃A' c',OwnW w4.heap.size wr (.slice A N.length c) (.slice A' (jwo ls m p q (mn2 (t:Int) u,mx2 (t:Int) u) j).length c') N (jwo ls m p q (mn2 (t:Int) u,mx2 (t:Int) u) j)/\
    Blk wr x 27 #[.slice A N.length c,.slice A' (jwo ls m p q (mn2 (t:Int) u,mx2 (t:Int) u) j).length c']/\(∀k,zi (.slice A N.length c) (.slice A' (jwo ls m p q (mn2 (t:Int) u,mx2 (t:Int) u) j).length c') k->¬k=x)/\Below w4.heap.size w4 wr) (fun i _=>ls.length -(intOf i).toNat)
  case atStart=>exact⟨0,aab _,rfl,none,0,⟨cU,OwnP.nil _ _ _,by intro k _ h2;cases h2⟩,hO,(by rintro k (h|h);exact hax k h;cases h),f9⟩
  case round=>
   obtain⟨j,Bj,rfl,A',c',ho,hO,cH,hb⟩:=hrel;clear f9 cU hax a_0 a_1;have hA:=mt.below hb n1;have hR:=fF.below hb n2;have n1':w.heap.size<wr.heap.size:=hA.lt;have n2':w.heap.size+1<wr.heap.size:=hR.lt;have n3':x<wr.heap.size:=hO.lt;have n4':w4.heap.size<=wr.heap.size:=hb.size;obtain⟨a_0,a_1⟩:=hA.c2;obtain⟨o_0,o_1,o_f0,o_f1⟩:=hO.b2;have y0':=(hb.cell (p:=⟨b2,o2,none⟩) g2').trans y0;have y1':=(hb.cell (p:=⟨b2,o2+1,none⟩) g2').trans y1;have g3:b2<wr.heap.size:=o_
   have hG:=z0Q ls m p q (mn2 (t:Int) u,mx2 (t:Int) u) j
   by_cases Hf:j<ls.length
   ·obtain⟨k0,k1⟩:=Fo.out j Hf
    have q0:=(hb.cell (p:=⟨bl,offl+j*2,none⟩) (by have:=Hn.size;show bl<w4.heap.size;omega)).trans ((Hn.cell (p:=⟨bl,offl+j*2,none⟩) Hb).trans k0);have q1:=(hb.cell (p:=⟨bl,offl+j*2+1,none⟩) (by have:=Hn.size;show bl<w4.heap.size;omega)).trans ((Hn.cell (p:=⟨bl,offl+j*2+1,none⟩) Hb).trans k1);obtain⟨⟨be1,be2⟩,be3,be4⟩:=bH.out j Hf;clear k0 k1;have c1:(0:Int)<=(j:Int):=o_
    have c3:(j:Int)<(ls.length:Int):=o_
    by_cases R0:j=q
    ·have HS:Hid (jwo ls m p q (mn2 (t:Int) u,mx2 (t:Int) u) (j+1)=jwo ls m p q (mn2 (t:Int) u,mx2 (t:Int) u) j):=h_ (by simp[jwo,R0])
     have s1:((j:Int)==(q:Int))=true:=by simp[R0]
     clear R0;generalize (ndI ls j).1=e1 at*;generalize (ndI ls j).2=e2 at*;have HB:Hid (Below w4.heap.size w4 (wr.alloc (.cells #[.int .i64 e1,.int .i64 e2] 108))):=h_ bel_;go_wp2;go_roundw
     case rel=>exact⟨j+1,by omega,by go_num,A',c',by rw[HS.out];exact ho.alloc _,by rw[HS.out];exact hO.alloc _,by rw[HS.out];exact cH,HB.out⟩
     case measure=>simp[intOf];omega
    ·have s1:((j:Int)==(q:Int))=false:=by simp;omega
     by_cases wL:j=p
     ·have Cx:Hid (jwo ls m p q (mn2 (t:Int) u,mx2 (t:Int) u) (j+1)=jwo ls m p q (mn2 (t:Int) u,mx2 (t:Int) u) j++[(dnI m (mn2 (t:Int) u),dnI m (mx2 (t:Int) u))]):=h_ (by subst wL;simp[jwo,R0,dnP])
      have s3:((j:Int)==(p:Int))=true:=by simp[wL]
      clear wL R0;generalize (ndI ls j).1=e1 at*;generalize (ndI ls j).2=e2 at*;generalize jwo ls m p q (mn2 (t:Int) u,mx2 (t:Int) u) j=G at*;have ee1: -1000000<=mn2 (t:Int) u/\mn2 (t:Int) u<=1000000:=by rw[Qe];omega
      have ee2: -1000000<=mx2 (t:Int) u/\mx2 (t:Int) u<=1000000:=by rw[vr];omega
      obtain⟨ef1,ef2⟩:=ee1;obtain⟨ef3,ef4⟩:=ee2
      by_cases h1:(m:Int)<mn2 (t:Int) u
      ·by_cases h2:(m:Int)<mx2 (t:Int) u
       ·have HS:Hid (jwo ls m p q (mn2 (t:Int) u,mx2 (t:Int) u) (j+1)=G++[(mn2 (t:Int) u -1,mx2 (t:Int) u -1)]):=h_ (by rw[Cx.out];simp[dnI,h1,h2])
        go_wp2_with (at_builtin;refine zj rfl _ _ _ rfl w4.heap.size 108 j0 Tryz.underlying25 hj jz0 jz1 jz2 (.slice A' G.length c') _ G [(mn2 (t:Int) u -1,mx2 (t:Int) u -1)] rfl rfl ((ho.2.1.alloc _).alloc _) (j6 (by simp) rfl rfl rfl (by simp[maxLen])) (by simp;omega) (by simp;omega) ?_)
        intro A3 c3 w3 Hm gn fA;have HN:=h_ (vM hx hO cH hb ho Hm gn fA);have GH:=HN.out.2.2.2.2;clear fA gn hb ho hO cH a_0 a_1 o_0 o_1 o_f0 o_f1 q0 q1 Hm;obtain⟨o_0,o_1,o_f0,o_f1⟩:=GH.b2;clear GH;go_wp2;go_roundw
        case rel=>exact⟨j+1,by omega,by go_num,A3,c3,by rw[HS.out];exact HN.out.1,by rw[HS.out];exact HN.out.2.1,by rw[HS.out];exact HN.out.2.2.1,HN.out.2.2.2.1⟩
        case measure=>simp[intOf];omega
       ·have HS:Hid (jwo ls m p q (mn2 (t:Int) u,mx2 (t:Int) u) (j+1)=G++[(mn2 (t:Int) u -1,mx2 (t:Int) u)]):=h_ (by rw[Cx.out];simp[dnI,h1,h2])
        go_wp2_with (at_builtin;refine zj rfl _ _ _ rfl w4.heap.size 108 j0 Tryz.underlying25 hj jz0 jz1 jz2 (.slice A' G.length c') _ G [(mn2 (t:Int) u -1,mx2 (t:Int) u)] rfl rfl ((ho.2.1.alloc _).alloc _) (j6 (by simp) rfl rfl rfl (by simp[maxLen])) (by simp;omega) (by simp;omega) ?_)
        intro A3 c3 w3 Hm gn fA;have HN:=h_ (vM hx hO cH hb ho Hm gn fA);have GH:=HN.out.2.2.2.2;clear fA gn hb ho hO cH a_0 a_1 o_0 o_1 o_f0 o_f1 q0 q1 Hm;obtain⟨o_0,o_1,o_f0,o_f1⟩:=GH.b2;clear GH;go_wp2;go_roundw
        case rel=>exact⟨j+1,by omega,by go_num,A3,c3,by rw[HS.out];exact HN.out.1,by rw[HS.out];exact HN.out.2.1,by rw[HS.out];exact HN.out.2.2.1,HN.out.2.2.2.1⟩
        case measure=>simp[intOf];omega
      ·by_cases h2:(m:Int)<mx2 (t:Int) u
       ·have HS:Hid (jwo ls m p q (mn2 (t:Int) u,mx2 (t:Int) u) (j+1)=G++[(mn2 (t:Int) u,mx2 (t:Int) u -1)]):=h_ (by rw[Cx.out];simp[dnI,h1,h2])
        go_wp2_with (at_builtin;refine zj rfl _ _ _ rfl w4.heap.size 108 j0 Tryz.underlying25 hj jz0 jz1 jz2 (.slice A' G.length c') _ G [(mn2 (t:Int) u,mx2 (t:Int) u -1)] rfl rfl ((ho.2.1.alloc _).alloc _) (j6 (by simp) rfl rfl rfl (by simp[maxLen])) (by simp;omega) (by simp;omega) ?_)
        intro A3 c3 w3 Hm gn fA;have HN:=h_ (vM hx hO cH hb ho Hm gn fA);have GH:=HN.out.2.2.2.2;clear fA gn hb ho hO cH a_0 a_1 o_0 o_1 o_f0 o_f1 q0 q1 Hm;obtain⟨o_0,o_1,o_f0,o_f1⟩:=GH.b2;clear GH;go_wp2;go_roundw
        case rel=>exact⟨j+1,by omega,by go_num,A3,c3,by rw[HS.out];exact HN.out.1,by rw[HS.out];exact HN.out.2.1,by rw[HS.out];exact HN.out.2.2.1,HN.out.2.2.2.1⟩
        case measure=>simp[intOf];omega
       ·have HS:Hid (jwo ls m p q (mn2 (t:Int) u,mx2 (t:Int) u) (j+1)=G++[(mn2 (t:Int) u,mx2 (t:Int) u)]):=h_ (by rw[Cx.out];simp[dnI,h1,h2])
        go_wp2_with (at_builtin;refine zj rfl _ _ _ rfl w4.heap.size 108 j0 Tryz.underlying25 hj jz0 jz1 jz2 (.slice A' G.length c') _ G [(mn2 (t:Int) u,mx2 (t:Int) u)] rfl rfl ((ho.2.1.alloc _).alloc _) (j6 (by simp) rfl rfl rfl (by simp[maxLen])) (by simp;omega) (by simp;omega) ?_)
        intro A3 c3 w3 Hm gn fA;have HN:=h_ (vM hx hO cH hb ho Hm gn fA);have GH:=HN.out.2.2.2.2;clear fA gn hb ho hO cH a_0 a_1 o_0 o_1 o_f0 o_f1 q0 q1 Hm;obtain⟨o_0,o_1,o_f0,o_f1⟩:=GH.b2;clear GH;go_wp2;go_roundw
        case rel=>exact⟨j+1,by omega,by go_num,A3,c3,by rw[HS.out];exact HN.out.1,by rw[HS.out];exact HN.out.2.1,by rw[HS.out];exact HN.out.2.2.1,HN.out.2.2.2.1⟩
        case measure=>simp[intOf];omega
     ·have Cx:Hid (jwo ls m p q (mn2 (t:Int) u,mx2 (t:Int) u) (j+1)=jwo ls m p q (mn2 (t:Int) u,mx2 (t:Int) u) j++[(dnI m (ndI ls j).1,dnI m (ndI ls j).2)]):=h_ (by simp[jwo,R0,wL,dnP])
      have s3:((j:Int)==(p:Int))=false:=by simp;omega
      clear wL R0;generalize (ndI ls j).1=e1 at*;generalize (ndI ls j).2=e2 at*;generalize jwo ls m p q (mn2 (t:Int) u,mx2 (t:Int) u) j=G at*
      by_cases h1:(m:Int)<e1
      ·by_cases h2:(m:Int)<e2
       ·have HS:Hid (jwo ls m p q (mn2 (t:Int) u,mx2 (t:Int) u) (j+1)=G++[(e1 -1,e2 -1)]):=h_ (by rw[Cx.out];simp[dnI,h1,h2])
        go_wp2_with (at_builtin;refine zj rfl _ _ _ rfl w4.heap.size 108 j0 Tryz.underlying25 hj jz0 jz1 jz2 (.slice A' G.length c') _ G [(e1 -1,e2 -1)] rfl rfl ((ho.2.1.alloc _).alloc _) (j6 (by simp) rfl rfl rfl (by simp[maxLen])) (by simp;omega) (by simp;omega) ?_)
        intro A3 c3 w3 Hm gn fA;have HN:=h_ (vM hx hO cH hb ho Hm gn fA);have GH:=HN.out.2.2.2.2;clear fA gn hb ho hO cH a_0 a_1 o_0 o_1 o_f0 o_f1 q0 q1 Hm;obtain⟨o_0,o_1,o_f0,o_f1⟩:=GH.b2;clear GH;go_wp2;go_roundw
        case rel=>exact⟨j+1,by omega,by go_num,A3,c3,by rw[HS.out];exact HN.out.1,by rw[HS.out];exact HN.out.2.1,by rw[HS.out];exact HN.out.2.2.1,HN.out.2.2.2.1⟩
        case measure=>simp[intOf];omega
       ·have HS:Hid (jwo ls m p q (mn2 (t:Int) u,mx2 (t:Int) u) (j+1)=G++[(e1 -1,e2)]):=h_ (by rw[Cx.out];simp[dnI,h1,h2])
        go_wp2_with (at_builtin;refine zj rfl _ _ _ rfl w4.heap.size 108 j0 Tryz.underlying25 hj jz0 jz1 jz2 (.slice A' G.length c') _ G [(e1 -1,e2)] rfl rfl ((ho.2.1.alloc _).alloc _) (j6 (by simp) rfl rfl rfl (by simp[maxLen])) (by simp;omega) (by simp;omega) ?_)
        intro A3 c3 w3 Hm gn fA;have HN:=h_ (vM hx hO cH hb ho Hm gn fA);have GH:=HN.out.2.2.2.2;clear fA gn hb ho hO cH a_0 a_1 o_0 o_1 o_f0 o_f1 q0 q1 Hm;obtain⟨o_0,o_1,o_f0,o_f1⟩:=GH.b2;clear GH;go_wp2;go_roundw
        case rel=>exact⟨j+1,by omega,by go_num,A3,c3,by rw[HS.out];exact HN.out.1,by rw[HS.out];exact HN.out.2.1,by rw[HS.out];exact HN.out.2.2.1,HN.out.2.2.2.1⟩
        case measure=>simp[intOf];omega
      ·by_cases h2:(m:Int)<e2
       ·have HS:Hid (jwo ls m p q (mn2 (t:Int) u,mx2 (t:Int) u) (j+1)=G++[(e1,e2 -1)]):=h_ (by rw[Cx.out];simp[dnI,h1,h2])
        go_wp2_with (at_builtin;refine zj rfl _ _ _ rfl w4.heap.size 108 j0 Tryz.underlying25 hj jz0 jz1 jz2 (.slice A' G.length c') _ G [(e1,e2 -1)] rfl rfl ((ho.2.1.alloc _).alloc _) (j6 (by simp) rfl rfl rfl (by simp[maxLen])) (by simp;omega) (by simp;omega) ?_)
        intro A3 c3 w3 Hm gn fA;have HN:=h_ (vM hx hO cH hb ho Hm gn fA);have GH:=HN.out.2.2.2.2;clear fA gn hb ho hO cH a_0 a_1 o_0 o_1 o_f0 o_f1 q0 q1 Hm;obtain⟨o_0,o_1,o_f0,o_f1⟩:=GH.b2;clear GH;go_wp2;go_roundw
        case rel=>exact⟨j+1,by omega,by go_num,A3,c3,by rw[HS.out];exact HN.out.1,by rw[HS.out];exact HN.out.2.1,by rw[HS.out];exact HN.out.2.2.1,HN.out.2.2.2.1⟩
        case measure=>simp[intOf];omega
       ·have HS:Hid (jwo ls m p q (mn2 (t:Int) u,mx2 (t:Int) u) (j+1)=G++[(e1,e2)]):=h_ (by rw[Cx.out];simp[dnI,h1,h2])
        go_wp2_with (at_builtin;refine zj rfl _ _ _ rfl w4.heap.size 108 j0 Tryz.underlying25 hj jz0 jz1 jz2 (.slice A' G.length c') _ G [(e1,e2)] rfl rfl ((ho.2.1.alloc _).alloc _) (j6 (by simp) rfl rfl rfl (by simp[maxLen])) (by simp;omega) (by simp;omega) ?_)
        intro A3 c3 w3 Hm gn fA;have HN:=h_ (vM hx hO cH hb ho Hm gn fA);have GH:=HN.out.2.2.2.2;clear fA gn hb ho hO cH a_0 a_1 o_0 o_1 o_f0 o_f1 q0 q1 Hm;obtain⟨o_0,o_1,o_f0,o_f1⟩:=GH.b2;clear GH;go_wp2;go_roundw
        case rel=>exact⟨j+1,by omega,by go_num,A3,c3,by rw[HS.out];exact HN.out.1,by rw[HS.out];exact HN.out.2.1,by rw[HS.out];exact HN.out.2.2.1,HN.out.2.2.2.1⟩
        case measure=>simp[intOf];omega
   ·have GP:j=ls.length:=o_
    subst GP;obtain⟨G,HGe⟩:∃G,G=jwo ls m p q (mn2 (t:Int) u,mx2 (t:Int) u) ls.length:=⟨_,rfl⟩;rw[<-HGe] at ho hO cH cZ;clear HGe o_0 o_1 o_f0 o_f1;obtain⟨o_0,o_1,o_f0,o_f1⟩:=hO.b2;obtain⟨bw,BR⟩:∃b,winB (xe ns m) (xv ls m)=b:=⟨_,rfl⟩;have fH:=h_ BR;have hC:winB N G=bw:=by rw[<-hTD.out,<-cZ.out];exact BR
    clear BR;have R1:Below w.heap.size w wr:=Hn.trans (hb.mono Hn.size)
    go_wp2_with fail
    refine(zF _ _ N G bw _ ho.1.reads ho.2.1.reads hC).mono ?_
    rintro e w7 ⟨rfl,fQ⟩;have Mw:=hA.below fQ n1';have Ch:=hR.below fQ n2';have C8:=hO.below fQ n3';have Cb:=ho.kept fQ;have Gt:=R1.trans (fQ.mono R1.size);have n8:w.heap.size+1<w7.heap.size:=Ch.lt;clear fQ hA hR hO ho hb R1 cH a_0 a_1 o_0 o_1 o_f0 o_f1 y0' y1' hC
    cases bw
    ·have EB:z9C ns ls m=false:=by unfold z9C;rw[fH.out,Bool.and_false]
     have EN:qo ns ls m=ns:=by unfold qo;rw[EB];rfl
     have EL:qp ns ls m=ls:=by unfold qp;rw[EB];rfl
     obtain⟨a_0,a_1⟩:=Mw.c2
     go_wp2_with fail
     refine(zU _ _ ns ls _ (hn.below Gt) (hl.below Gt) h1 h2).mono ?_
     rintro e w8 ⟨An1,cn1,Al1,cl1,rfl,Ut,BH⟩;have Mv:=Ch.below BH n8;have mG:=Gt.trans (BH.mono Gt.size);have cG:=h_ (((Ut.setLow (p:=⟨w.heap.size+1,0,none⟩) n8 (.slice An1 ns.length cn1)).setLow (p:=⟨w.heap.size+1,1,none⟩) n8 (.slice Al1 ls.length cl1)).mono (show w.heap.size<=_ by omega));have HB:=h_ ((mG.setCell (p:=⟨w.heap.size+1,0,none⟩) sz_ (.slice An1 ns.length cn1)).setCell (p:=⟨w.heap.size+1,1,none⟩) sz_ (.slice Al1 ls.length cl1));clear Ut mG BH Mw Ch C8 Cb Gt a_0 a_1;obtain⟨r_0,r_1,r_f0,r_f1⟩:=Mv.b2;go_wp2;exact bodyPost_ret (v:= .tuple #[.agg #[.slice An1 ns.length cn1,.slice Al1 ls.length cl1],.bool false]) (by simp[results,Tryz.results109,go_sem,r_0,r_1]) rfl (by show zG (qo ns ls m) (qp ns ls m) (z9C ns ls m) w _ _;rw[EB,EN,EL];exact zG.mk rfl rfl rfl cG.out HB.out)
    ·have EB:z9C ns ls m=true:=by unfold z9C;rw[fH.out,hs];rfl
     have EN:qo ns ls m=N:=by unfold qo;rw[EB,hTD.out];rfl
     have EL:qp ns ls m=G:=by unfold qp;rw[EB,cZ.out];rfl
     have cG:=h_ (((Cb.setLow (p:=⟨w.heap.size+1,0,none⟩) n2 (.slice A N.length c)).setLow (p:=⟨w.heap.size+1,1,none⟩) n2 (.slice A' G.length c')).mono (show w.heap.size<=_ by omega));have HB:=h_ ((Gt.setCell (p:=⟨w.heap.size+1,0,none⟩) sz_ (.slice A N.length c)).setCell (p:=⟨w.heap.size+1,1,none⟩) sz_ (.slice A' G.length c'));clear Cb Gt Mw;obtain⟨r_0,r_1,r_f0,r_f1⟩:=Ch.b2;obtain⟨o_0,o_1,o_f0,o_f1⟩:=C8.b2;clear Ch C8;go_wp2;exact bodyPost_ret (v:= .tuple #[.agg #[.slice A N.length c,.slice A' G.length c'],.bool true]) (by simp[results,Tryz.results109,go_sem,r_0,r_1,o_0,o_1]) rfl (by show zG (qo ns ls m) (qp ns ls m) (z9C ns ls m) w _ _;rw[EB,EN,EL];exact zG.mk rfl rfl rfl cG.out HB.out)
theorem z5b (vn vl:Value) (ns ls:List Pr) (k:Int) (w:World) (hn:RP w vn ns) (hl:RP w vl ls) (h1:ns.length<=1048576) (h2:ls.length<=1048576):
  Calls Tryz.prog 109 #[.agg #[vn,vl],.int .i64 k] w (fun e w'=>zG (qo ns ls k) (qp ns ls k) (z9C ns ls k) w e w'):=by
 cases hs:zT ns ls k
 ·have EB:z9C ns ls k=false:=by unfold z9C;rw[hs];rfl
  have EN:qo ns ls k=ns:=by unfold qo;rw[EB];rfl
  have EL:qp ns ls k=ls:=by unfold qp;rw[EB];rfl
  rw[EB,EN,EL];exact z77 vn vl ns ls k w hn hl h1 h2 hs
 ·obtain⟨m,p,q,t,u,rfl,hk,h⟩:=z2N hs
  have hm:=h.hm;obtain⟨An,cn,rfl,Fk,_,hcell⟩:=hn.form;obtain⟨b,off,rfl,_⟩:=hcell o_;exact z51 vl ns ls (ns.take m) (ns.drop (m+1)) b off cn m p q t u w hn hl h1 h2 Fk (RP.take hn m o_) (h_ (by simp;omega)) (RP.drop hn (m+1) o_) (h_ (by simp)) hs hk h (h_ h.cn)
end Go.Proofs.YtnjcpljhmhdhkaaGreat
