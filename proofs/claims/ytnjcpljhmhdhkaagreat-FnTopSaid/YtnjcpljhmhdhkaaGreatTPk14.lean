/- part 14 -/
import Derived.Test.YtnjcpljhmhdhkaaGreatTPk9
import Derived.Test.YtnjcpljhmhdhkaaGreatTPk13
import Derived.Deep.RegionHeld3
set_option linter.unusedSimpArgs false
set_option linter.unusedVariables false
set_option maxRecDepth 100000
set_option maxHeartbeats 8000000
namespace Go.Proofs.YtnjcpljhmhdhkaaGreat
open Go.RowKit
def dnP (k:Int) (l:Pr):Pr:=(dnI k l.1,dnI k l.2)
def jwo (ls:List Pr) (k:Int) (p q:Nat) (X:Pr):Nat->List Pr
 |0=> []
 |j+1=>if j=q then jwo ls k p q X j else jwo ls k p q X j++[dnP k (if j=p then X else ndI ls (j:Nat))]
theorem z1z (ls:List Pr) (k:Int) (p q:Nat) (X:Pr):∀j,(jwo ls k p q X j).length <=j
 |0=>by simp[jwo]
 |j+1=>by
  have:=z1z ls k p q X j;unfold jwo
  split<;>simp<;>omega
theorem ZG (l:List Pr) (j:Nat) (h:j<l.length):l.take (j+1)=l.take j++[ndI l (j:Nat)]:=by
 rw[qd l j h,aax h]
theorem VJ (l:List Pr) (x:Pr) (m:Nat):(l++[x]).eraseIdx m=if l.length=m then l else l.eraseIdx m++[x]:=by
 by_cases h:l.length=m
 ·rw[aao h,List.eraseIdx_append_of_length_le o_]
  simp[h]
 ·rw[aaq h]
  by_cases h2:m<l.length
  ·rw[List.eraseIdx_append_of_lt_length h2]
  ·rw[List.eraseIdx_append_of_length_le o_,List.eraseIdx_of_length_le (by simp;omega),List.eraseIdx_of_length_le o_]
theorem z7h (ns:List Pr) (m:Nat):∀j,j<=ns.length->nwo ns m j=(ns.take j).eraseIdx m
 |0,_=>by simp[nwo]
 |j+1,h=>by
  have hl:(ns.take j).length =j:=by simp;omega
  rw[ZG ns j o_,VJ,hl];unfold nwo;rw[z7h ns m j o_]
  by_cases hj:j=m
  ·rw[aao o_,aao hj,List.eraseIdx_of_length_le o_]
  ·rw[aaq o_,aaq hj]
theorem z0R (ls:List Pr) (p:Nat) (X:Pr) (j:Nat) (h:j<ls.length):ndI (ls.set p X) (j:Nat)=if j=p then X else ndI ls (j:Nat):=by
 rw[qd _ _ (by simpa using h),qd _ _ h,List.getElem_set]
 by_cases hj:j=p
 ·rw[aao hj,aao hj.symm]
 ·rw[aaq hj,aaq (fun e=>hj e.symm)]
theorem z7j (ls:List Pr) (k:Int) (p q:Nat) (X:Pr):∀j,j<=ls.length->jwo ls k p q X j=(((ls.set p X).take j).eraseIdx q).map (dnP k)
 |0,_=>by simp[jwo]
 |j+1,h=>by
  have hl:((ls.set p X).take j).length =j:=by simp;omega
  rw[ZG _ j (by simp;omega),VJ,hl];unfold jwo;rw[z7j ls k p q X j o_,z0R ls p X j o_]
  by_cases hj:j=q
  ·rw[aao hj,aao hj,List.eraseIdx_of_length_le o_]
  ·rw[aaq hj,aaq hj,aaz];rfl
theorem z6L (ls:List Pr) (k:Int) (hnt:∀j:Nat,j<ls.length->(ndI ls j).1≠k/\(ndI ls j).2≠k):∀j,j<=ls.length->lwo ls k j=(ls.take j).map (dnP k)
 |0,_=>by simp[lwo]
 |j+1,h=>by
  rw[ZG ls j o_];unfold lwo;rw[aao (hnt j o_),z6L ls k hnt j o_,aaz];rfl
theorem z1n (ls:List Pr) (k:Int):∀m,∀i,i<m->jR ls k i=true->i∈atN ls k m
 |0,i,h,_=>by omega
 |m+1,i,h,ht=>by
  cases hm:jR ls k m
  ·rw[z1w hm]
   by_cases e:i=m
   ·subst e;rw[hm] at ht;cases ht
   ·exact z1n ls k m i o_ ht
  ·rw[JC hm]
   by_cases e:i=m
   ·subst e;simp
   ·simp[z1n ls k m i o_ ht]
structure JoinAt (ns ls:List Pr) (m p q t u:Nat):Prop where
 win:zC ns ls
 hm:m<ns.length
 at_:atN ls m ls.length=[p,q]
 hp:p<ls.length
 hq:q<ls.length
 ends:vm ls m (atN ls m ls.length)=[(t:Int),(u:Int)]
 ht:t<ns.length
 hu:u<ns.length
 tk:(t:Int)≠m
 uk:(u:Int)≠m
 ot:othI (ndI ls p) m=(t:Int)
 ou:othI (ndI ls q) m=(u:Int)
theorem z3Q {ns ls:List Pr} {k:Int} (h:zW ns ls k=true):∃m p q t u:Nat,k=(m:Int)/\hasN ns ls k=true/\JoinAt ns ls m p q t u:=by
 unfold zW at h;rw[aaG] at h;obtain⟨hk,h2⟩:=deg2 (of_decide_eq_true h.1);obtain⟨hw,m,rfl,hm⟩:=xH hk;obtain⟨p,q,t,u,a1,a2,a3,a4,a5,a6,a7,a8,a9,a10⟩:=Xa (zu.1 hw) h2;exact⟨m,p,q,t,u,rfl,hk,zu.1 hw,hm,a1,a2,a3,a4,a5,a6,a7,a8,a9,a10⟩
theorem JoinAt.bound {ns ls:List Pr} {m p q t u:Nat} (h:JoinAt ns ls m p q t u) (j:Nat) (hj:j<((ls.set p (mn2 (t:Int) u,mx2 (t:Int) u)).take q++(ls.set p (mn2 (t:Int) u,mx2 (t:Int) u)).drop (q+1)).length):
  (-1000000<=(ndI ((ls.set p (mn2 (t:Int) u,mx2 (t:Int) u)).take q++(ls.set p (mn2 (t:Int) u,mx2 (t:Int) u)).drop (q+1)) j).1/\(ndI ((ls.set p (mn2 (t:Int) u,mx2 (t:Int) u)).take q++(ls.set p (mn2 (t:Int) u,mx2 (t:Int) u)).drop (q+1)) j).1<=1000000)/\(-1000000<=(ndI ((ls.set p (mn2 (t:Int) u,mx2 (t:Int) u)).take q++(ls.set p (mn2 (t:Int) u,mx2 (t:Int) u)).drop (q+1)) j).2/\(ndI ((ls.set p (mn2 (t:Int) u,mx2 (t:Int) u)).take q++(ls.set p (mn2 (t:Int) u,mx2 (t:Int) u)).drop (q+1)) j).2<=1000000):=by
 have hq:q<(ls.set p (mn2 (t:Int) u,mx2 (t:Int) u)).length :=by simpa using h.hq
 rw[Xb hq j hj];have Fb:j<ls.length -1:=by simp at hj;have:=h.hq;omega
 generalize hi:(if j<q then j else j+1)=i;have fP:i<ls.length:=by split at hi<;>omega
 rw[z0R ls p _ i fP];have M0:=h.win.2.1;have ht:=h.ht;have hu:=h.hu
 by_cases Yy:i=p
 ·rw[aao Yy];dsimp only;rw[Qw,vW];omega
 ·rw[aaq Yy]
  have hl:=zZ.1 (h.win.2.2.2.2.2 i fP).1;omega
theorem JoinAt.free {ns ls:List Pr} {m p q t u:Nat} (h:JoinAt ns ls m p q t u) (j:Nat) (hj:j<((ls.set p (mn2 (t:Int) u,mx2 (t:Int) u)).take q++(ls.set p (mn2 (t:Int) u,mx2 (t:Int) u)).drop (q+1)).length):
  (ndI ((ls.set p (mn2 (t:Int) u,mx2 (t:Int) u)).take q++(ls.set p (mn2 (t:Int) u,mx2 (t:Int) u)).drop (q+1)) j).1≠m/\(ndI ((ls.set p (mn2 (t:Int) u,mx2 (t:Int) u)).take q++(ls.set p (mn2 (t:Int) u,mx2 (t:Int) u)).drop (q+1)) j).2≠m:=by
 have hq:q<(ls.set p (mn2 (t:Int) u,mx2 (t:Int) u)).length :=by simpa using h.hq
 rw[Xb hq j hj];have Fb:j<ls.length -1:=by simp at hj;have:=h.hq;omega
 generalize hi:(if j<q then j else j+1)=i;have fP:i<ls.length:=by split at hi<;>omega
 have hiq:i≠q:=by split at hi<;>omega
 rw[z0R ls p _ i fP];have ht:=h.tk;have hu:=h.uk
 by_cases Yy:i=p
 ·rw[aao Yy];dsimp only;unfold mn2 mx2;constructor<;>split<;>assumption
 ·rw[aaq Yy]
  have fF:jR ls m i=false:=by
   cases htb:jR ls m i
   ·rfl
   ·have:=z1n ls m ls.length i fP htb
    rw[h.at_] at this;simp at this
    omega
  simpa[jR,not_or] using fF
theorem JoinAt.joinX {ns ls:List Pr} {m p q t u:Nat} (h:JoinAt ns ls m p q t u):joinX ls m p q=(mn2 (t:Int) u,mx2 (t:Int) u):=by
 simp[Proofs.YtnjcpljhmhdhkaaGreat.joinX,h.ot,h.ou]
theorem JoinAt.cn {ns ls:List Pr} {m p q t u:Nat} (h:JoinAt ns ls m p q t u):xS ns m=ns.take m++ns.drop (m+1):=by
 unfold xS;rw[z7h ns m _ (aaa _),aaA,List.eraseIdx_eq_take_drop_succ]
theorem JoinAt.cl {ns ls:List Pr} {m p q t u:Nat} (h:JoinAt ns ls m p q t u):xO ls m=jwo ls m p q (mn2 (t:Int) u,mx2 (t:Int) u) ls.length:=by
 have hM:z0i ls m=(ls.set p (mn2 (t:Int) u,mx2 (t:Int) u)).take q++(ls.set p (mn2 (t:Int) u,mx2 (t:Int) u)).drop (q+1):=by
  unfold z0i;rw[h.at_];simp only[h.joinX]
 have hT:(ls.set p (mn2 (t:Int) u,mx2 (t:Int) u)).take ls.length=ls.set p (mn2 (t:Int) u,mx2 (t:Int) u):=aaK (by simp);unfold xO;rw[hM,z6L _ _ h.free _ (aaa _),z7j _ _ _ _ _ _ (aaa _),aaA,hT,List.eraseIdx_eq_take_drop_succ]
theorem z63 (vn vl:Value) (ns ls:List Pr) (k:Int) (w:World) (hn:RP w vn ns) (hl:RP w vl ls) (h1:ns.length<=1048576) (h2:ls.length<=1048576):
  Calls Tryz.prog 163 #[.agg #[vn,vl],.int .i64 k] w (fun e w'=>zI (qr ns ls k) (qs ns ls k) (j5 ns ls k) w e w'):=by
 cases hs:zW ns ls k
 ·have EB:j5 ns ls k=false:=by unfold j5;rw[hs];rfl
  have EN:qr ns ls k=ns:=by unfold qr;rw[EB];rfl
  have EL:qs ns ls k=ls:=by unfold qs;rw[EB];rfl
  rw[EB,EN,EL];exact z7A vn vl ns ls k w hn hl h1 h2 hs
 ·obtain⟨m,p,q,t,u,rfl,hk,h⟩:=z3Q hs
  exact z6b vn vl ns ls m p q t u w hn hl h1 h2 hs hk h.at_ h.hp h.hq h.ends h.bound
attribute [local go_sem ↓] zr zq zU zT
theorem Z2 (vn vl:Value) (ns ls:List Pr) (k:Int) (b:Bool) (w:World) (hn:RP w vn ns) (hl:RP w vl ls) (hb:zW ns ls k=b):
  CB_ 186 #[.agg #[vn,vl],.int .i64 k] w (.bool b):=by
 subst hb;exact Xm vn vl ns ls k w hn hl
theorem z7g (vn vl:Value) (ns ls:List Pr) (k:Int) (w:World) (hn:RP w vn ns) (hl:RP w vl ls) (h1:ns.length<=1048576) (h2:ls.length<=1048576) (hw:zW ns ls k=false):
  Calls Tryz.prog 109 #[.agg #[vn,vl],.int .i64 k] w (zI ns ls false w):=by
 go_enter Tryz.func109,Tryz.ntmps109
 go_wp2_with fail
 refine(Z2 _ _ ns ls _ _ _ (hn.below bel_) (hl.below bel_) hw).mono ?_
 rintro e w1 ⟨rfl,Hb⟩;have H7:=Hb.size;simp at H7
 have GT:Blk w1 w.heap.size 27 #[vn,vl]:=Blk.below ((Blk.newAt rfl).alloc _) Hb sz_;have H6:Blk w1 (w.heap.size+1) 27 #[.slice none 0 0,.slice none 0 0]:=Blk.below (Blk.newAt (by simp)) Hb sz_;have Ha:Below w.heap.size w w1:=bel_
 clear Hb;have n2:w.heap.size+1<w1.heap.size:=o_
 obtain⟨a_0,a_1⟩:=GT.c2
 go_wp2_with fail
 refine(zR _ _ ns ls _ (hn.below Ha) (hl.below Ha) h1 h2).mono ?_
 rintro e w2 ⟨An1,cn1,Al1,cl1,rfl,Hn,Hh⟩;have go:=H6.below Hh n2;have Hc:=Ha.trans (Hh.mono Ha.size);have hO:=h_ (((Hn.setLow (p:=⟨w.heap.size+1,0,none⟩) n2 (.slice An1 ns.length cn1)).setLow (p:=⟨w.heap.size+1,1,none⟩) n2 (.slice Al1 ls.length cl1)).mono (show w.heap.size<=_ by omega));have HB:=h_ ((Hc.setCell (p:=⟨w.heap.size+1,0,none⟩) sz_ (.slice An1 ns.length cn1)).setCell (p:=⟨w.heap.size+1,1,none⟩) sz_ (.slice Al1 ls.length cl1));clear Hn Hc Hh GT H6 Ha a_0 a_1;obtain⟨r_0,r_1,r_f0,r_f1⟩:=go.b2;go_wp2;exact bodyPost_ret (v:= .tuple #[.agg #[.slice An1 ns.length cn1,.slice Al1 ls.length cl1],.bool false]) (by simp[results,Tryz.results109,go_sem,r_0,r_1]) rfl ⟨_,_,_,_,rfl,hO.out,HB.out⟩
def BoxN (w0 w:World) (v:Value) (l:List Pr):Prop:=OwnP 106 w0.heap.size w v l/\Below w0.heap.size w0 w
def BoxO (w0:World) (y:Nat) (w:World) (v:Value) (l:List Pr):Prop:=
 OwnP 106 w0.heap.size w v l/\Below w0.heap.size w0 w/\Blk w y 27 #[.slice none 0 0,.slice none 0 0]/\w0.heap.size<=y/\∀k,v.ownBlock=some k->¬k=y
theorem BoxN.box {w0 w:World} {v:Value} {l:List Pr} {y:Nat} (h:BoxN w0 w v l) (hy:y=w.heap.size):BoxO w0 y (w.alloc (.cells #[.slice none 0 0,.slice none 0 0] 27)) v l:=by
 subst hy;exact⟨h.1.alloc _,h.2.alloc h.2.size _,Blk.newAt rfl,h.2.size,fun k hk e=>by have:=(h.1.lt k hk).2;omega⟩
theorem BoxN.start (w0:World) {g:Nat} (hg:g=w0.heap.size):BoxN w0 (w0.drew.alloc (.cells #[] 106)) (.slice (some ⟨g,0,none⟩) 0 0) []:=by
 subst hg;exact⟨OwnP.made rfl (aaa _),Below.alloc (Below.drew (aaj _ _)) (aaa _) _⟩
theorem BoxO.start (w0:World) {g y:Nat} (hg:g=w0.heap.size+1) (hy:y=w0.heap.size):
  BoxO w0 y ((w0.drew.alloc (.cells #[.slice none 0 0,.slice none 0 0] 27)).alloc (.cells #[] 106)) (.slice (some ⟨g,0,none⟩) 0 0) []:=by
 subst hg hy;exact⟨OwnP.made (by simp) (by simp),Below.alloc (Below.alloc (Below.drew (aaj _ _)) (aaa _) _) (by simp) _,(Blk.newAt rfl).alloc _,aaa _,fun k hk e=>by cases hk;exact absurd (show w0.heap.size+1=w0.heap.size from e) o_⟩
theorem jZ {P:Program} {w:World} {ops:Array Oper} {o:Oper} {a:Act} {K:Act->World->Prop} {Q:Exit->Act->World->Prop} {E:Prop} (Fu:o.guard=none) (s x:Operand) (t:TypeId)
  (ho:o.op= .call { callee:= .builtin .append,args:= #[s,x],argTypes:= #[t,t] })
  (i:TypeInfo) (ht:P.underlying t=some (.slice 106)) (hi:P.info? 106=some i) (hz:i.zero=some (.agg #[.int .i64 0,.int .i64 0])) (Hy:i.size=2) (gp:i.bytes=16)
  (w0:World) (v u:Value) (xs l:List (Int×Int)) (hs:a.eval s=v) (hx:a.eval x=u) (hB:BoxN w0 w v xs) (hr:RP w0 u l) (Hm:xs.length+l.length<=1048576+1048576)
  (h:∀A c w',BoxN w0 w' (.slice A (xs++l).length c) (xs++l)->K (a.put o.dst (.slice A (xs++l).length c)) w'):
  if Region.wanted o (yielded ops a.tmps)=true then Oper.wp P o a w K Q else E:=
 zk Fu s x t ho w0.heap.size 106 i ht hi hz Hy gp v u xs l hs hx hB.1 (hr.below hB.2) Hm hB.2.size
  fun A c w' FF hg _=>h A c w' ⟨FF,hB.2.grown hg hB.2.size (fun k hk=>(hB.1.lt k hk).1)⟩
theorem qe {P:Program} {w:World} {ops:Array Oper} {o:Oper} {a:Act} {K:Act->World->Prop} {Q:Exit->Act->World->Prop} {E:Prop} (Fu:o.guard=none) (s x:Operand) (t:TypeId)
  (ho:o.op= .call { callee:= .builtin .append,args:= #[s,x],argTypes:= #[t,t] })
  (i:TypeInfo) (ht:P.underlying t=some (.slice 106)) (hi:P.info? 106=some i) (hz:i.zero=some (.agg #[.int .i64 0,.int .i64 0])) (Hy:i.size=2) (gp:i.bytes=16)
  (w0:World) (y:Nat) (v u:Value) (xs l:List (Int×Int)) (hs:a.eval s=v) (hx:a.eval x=u) (hB:BoxO w0 y w v xs) (hr:RP w0 u l) (Hm:xs.length+l.length<=1048576+1048576)
  (h:∀A c w',BoxO w0 y w' (.slice A (xs++l).length c) (xs++l)->K (a.put o.dst (.slice A (xs++l).length c)) w'):
  if Region.wanted o (yielded ops a.tmps)=true then Oper.wp P o a w K Q else E:=
 zk Fu s x t ho w0.heap.size 106 i ht hi hz Hy gp v u xs l hs hx hB.1 (hr.below hB.2.1) Hm hB.2.1.size
  fun A c w' FF hg ha=>h A c w' ⟨FF,hB.2.1.grown hg hB.2.1.size (fun k hk=>(hB.1.lt k hk).1),hB.2.2.1.grownR hg hB.2.2.2.2,hB.2.2.2.1,fun k hk e=>by
   subst e
   rcases ha with ha|ha
   ·exact hB.2.2.2.2 k (ha.symm.trans hk) rfl
   ·rw[ha] at hk;cases hk;exact aaV _ hB.2.2.1.lt⟩
theorem BoxO.filled {w0 w:World} {y:Nat} {v:Value} {l:List Pr} (h:BoxO w0 y w v l):
  w0.heap.size<=y/\Below w0.heap.size w0 ((w.setCell ⟨y,0,none⟩ v).setCell ⟨y,1,none⟩ (.slice none 0 0))/\
   Blk ((w.setCell ⟨y,0,none⟩ v).setCell ⟨y,1,none⟩ (.slice none 0 0)) y 27 #[v,.slice none 0 0]/\
   OwnP 106 w0.heap.size ((w.setCell ⟨y,0,none⟩ v).setCell ⟨y,1,none⟩ (.slice none 0 0)) v l/\∀k,v.ownBlock=some k->¬k=y:=
 ⟨h.2.2.2.1,(h.2.1.setCell (p:=⟨y,0,none⟩) h.2.2.2.1 _).setCell (p:=⟨y,1,none⟩) h.2.2.2.1 _,(h.2.2.1.set_ 0 _).set_ 1 _,
  (h.1.apart (jq w ⟨y,0,none⟩ v) (fun k hk e=>by cases e;exact h.2.2.2.2 _ hk rfl)).apart (jq _ ⟨y,1,none⟩ _) (fun k hk e=>by cases e;exact h.2.2.2.2 _ hk rfl),h.2.2.2.2⟩
theorem BoxN.filled {w0 w:World} {v:Value} {l:List Pr} (h:BoxN w0 w v l):
  w0.heap.size<=w.heap.size/\Below w0.heap.size w0 (w.alloc (.cells #[v,.slice none 0 0] 27))/\
   Blk (w.alloc (.cells #[v,.slice none 0 0] 27)) w.heap.size 27 #[v,.slice none 0 0]/\
   OwnP 106 w0.heap.size (w.alloc (.cells #[v,.slice none 0 0] 27)) v l/\∀k,v.ownBlock=some k->¬k=w.heap.size:=
 ⟨h.2.size,h.2.alloc h.2.size _,Blk.newAt rfl,h.1.alloc _,fun k hk e=>by have:=(h.1.lt k hk).2;omega⟩
theorem kg {x:Nat} {w4 wr w3:World} {N G:List Pr} {A A' A3:Option Addr} {c c' c3:Nat} {o1 o2:Obj} {z:Pr} (hx:w4.heap.size<=x)
  (hO:Blk wr x 27 #[.slice A N.length c,.slice A' G.length c']) (CK:∀k,zp (.slice A N.length c) (.slice A' G.length c') k->¬k=x) (hb:Below w4.heap.size w4 wr)
  (ho:OwnW w4.heap.size wr (.slice A N.length c) (.slice A' G.length c') N G)
  (Hq:OwnP 108 w4.heap.size w3 (.slice A3 (G.length+1) c3) (G++[z])) (gq:((wr.alloc o1).alloc o2).grownBy w3 (Value.slice A' G.length c').ownBlock)
  (Fa:(Value.slice A3 (G.length+1) c3).ownBlock =(Value.slice A' G.length c').ownBlock ∨(Value.slice A3 (G.length+1) c3).ownBlock =some (wr.heap.size+1+1)):
  OwnW w4.heap.size (w3.setCell ⟨x,1,none⟩ (.slice A3 (G.length+1) c3)) (.slice A N.length c) (.slice A3 (G++[z]).length c3) N (G++[z])/\
  Blk (w3.setCell ⟨x,1,none⟩ (.slice A3 (G.length+1) c3)) x 27 #[.slice A N.length c,.slice A3 (G++[z]).length c3]/\(∀k,zp (.slice A N.length c) (.slice A3 (G++[z]).length c3) k->¬k=x)/\
  Below w4.heap.size w4 (w3.setCell ⟨x,1,none⟩ (.slice A3 (G.length+1) c3))/\Blk w3 x 27 #[.slice A N.length c,.slice A' G.length c']:=by
 rw[show G.length+1=(G++[z]).length by simp] at Fa Hq;have hxl:=hO.lt;have hbs:=hb.size;have GI:=((hO.alloc o1).alloc o2).grownR gq (fun k hk=>CK k (.inr hk));have hn3:=((ho.1.alloc o1).alloc o2).apart gq (fun k hk gU=>ho.2.2 k hk gU);have Hg:Below w4.heap.size w4 w3:=((hb.alloc hbs _).alloc sz_ _).grown gq sz_ (fun k hk=>(ho.2.1.lt k hk).1)
 have M6:∀k,(Value.slice A N.length c).ownBlock =some k->(Value.slice A3 (G++[z]).length c3).ownBlock =some k->False:=fun k hk gU=>by
  have Hf:=(ho.1.lt k hk).2
  rcases Fa with ha|ha
  ·exact ho.2.2 k hk (ha.symm.trans gU)
  ·rw[ha] at gU
   simp at gU
   omega
 have hy3:∀k,zp (.slice A N.length c) (.slice A3 (G++[z]).length c3) k->¬k=x:=by
  rintro k (hk|hk)
  ·exact CK k (.inl hk)
  ·intro e
   rcases Fa with ha|ha
   ·exact CK k (.inr (ha.symm.trans hk)) e
   ·rw[ha] at hk
    simp at hk
    omega
 refine⟨OwnW.setFar ⟨hn3,Hq,M6⟩ (fun h=>hy3 _ h rfl) _,?_,hy3,Hg.setCell (p:=⟨x,1,none⟩) hx _,GI⟩
 rw[show(G++[z]).length =G.length+1 by simp];exact GI.set_ 1 _
theorem z65 (vl:Value) (ns ls T D:List Pr) (b off cn m p q t u:Nat) (w:World) (hn:RP w (.slice (some ⟨b,off,none⟩) ns.length cn) ns) (hl:RP w vl ls) (h1:ns.length<=1048576) (h2:ls.length<=1048576)
  (FQ:ns.length<=cn) (hT:RP w (.slice (some ⟨b,off,none⟩) m cn) T) (Ch:Hid (T.length=m)) (hD:RP w (.slice (if cn=m+1 then some ⟨b,off,none⟩ else some ⟨b,off+(m+1)*2,none⟩) (ns.length -(m+1)) (cn -(m+1))) D) (NT:Hid (D.length=ns.length -(m+1)))
  (hs:zW ns ls m=true) (hk:hasN ns ls m=true) (h:JoinAt ns ls m p q t u) (hTD:Hid (xS ns m=T++D)):
  Calls Tryz.prog 109 #[.agg #[.slice (some ⟨b,off,none⟩) ns.length cn,vl],.int .i64 m] w (fun e w'=>zI (qr ns ls m) (qs ns ls m) (j5 ns ls m) w e w'):=by
 obtain⟨i0,hi,iz0,iz1,iz2⟩:=info_parts kB;obtain⟨j0,hj,jz0,jz1,jz2⟩:=info_parts jd;obtain⟨Al,cl,rfl,Hz,GM,gg⟩:=hl.formI;unfold maxLen at GM;have hp:=h.hp;have hq:=h.hq;have hm:=h.hm;have FB:=h_ h.at_;have ME:=h_ h.ot;have Wl:=h_ h.ou;have cZ:=h_ h.cl;have NV:(t:Int)<12:=by have:=h.ht;have:=h.win.2.1;omega
 have hu2:(u:Int)<12:=by have:=h.hu;have:=h.win.2.1;omega
 have hns:=h.win.2.1
 have mR:Hid (∀j:Nat,j<ls.length->(-1000000<=(ndI ls j).1/\(ndI ls j).1<=1000000)/\(-1000000<=(ndI ls j).2/\(ndI ls j).2<=1000000)):=h_ (fun j hj=>by
  have hl:=zZ.1 (h.win.2.2.2.2.2 j hj).1;omega)
 clear h;obtain⟨bl,offl,rfl,Hd,Gj⟩:=gg o_;obtain⟨k0,k1⟩:=Gj p hp;obtain⟨k2,k3⟩:=Gj q hq;clear gg;have Fk:=h_ Gj;clear Gj
 go_enter Tryz.func109,Tryz.ntmps109
 go_wp2_with fail
 refine(Z2 _ _ ns ls _ _ _ (hn.below bel_) (hl.below bel_) hs).mono ?_
 rintro e w1 ⟨rfl,Hb⟩;have H7:=Hb.size;simp at H7
 have GT:Blk w1 w.heap.size 27 #[.slice (some ⟨b,off,none⟩) ns.length cn,.slice (some ⟨bl,offl,none⟩) ls.length cl]:=Blk.below ((Blk.newAt rfl).alloc _) Hb sz_;have H6:Blk w1 (w.heap.size+1) 27 #[.slice none 0 0,.slice none 0 0]:=Blk.below (Blk.newAt (by simp)) Hb sz_;have Ha:Below w.heap.size w w1:=bel_
 clear Hb;have n1:w.heap.size<w1.heap.size:=o_
 have n2:w.heap.size+1<w1.heap.size:=o_
 obtain⟨a_0,a_1⟩:=GT.c2
 go_wp2_with fail
 refine(kU _ _ ns ls _ _ (hn.below Ha) (hl.below Ha) hk).mono ?_
 rw[FB.out];rintro e w2 ⟨v2,rfl,Hn,Hh⟩;have FA:=GT.below Hh n1;have go:=H6.below Hh n2;have Hc:=Ha.trans (Hh.mono Ha.size);obtain⟨A2,c2,e2,gV,_,GO⟩:=Hn.reads.form;subst e2;obtain⟨b2,o2,rfl,nG,GD⟩:=GO (by simp[natI]);have y0:=GD 0 (by simp[natI]);have y1:=GD 1 (by simp[natI]);simp only[natI,aaS,aaT,List.getD_cons_zero,List.getD_cons_succ,aaf,aaU,List.length_nil,aaF] at y0 y1 gV
 clear GO GD Hh GT H6 Ha a_0 a_1 Hn;rw[show(natI [p,q]).length =2 from rfl];have n1:w.heap.size<w2.heap.size:=FA.lt;have n2:w.heap.size+1<w2.heap.size:=go.lt;have c1:(0:Int)<=(p:Int):=o_
 have c3:(p:Int)<(ls.length:Int):=o_
 have g1:bl<w2.heap.size:=o_
 have x0:=(Hc.cell (p:=⟨bl,offl+p*2,none⟩) Hd).trans k0;have x1:=(Hc.cell (p:=⟨bl,offl+p*2+1,none⟩) Hd).trans k1;obtain⟨a_0,a_1⟩:=FA.c2
 go_wp2_with fail
 (refine z7 k_ k_ (fun hG=>?_))
 repeat (go_big_quiet_step ((go_at_call 188;exact zE (Q4 (ndI ls p) _ _ _ ME.out))))
 (refine wpQuiet_nil ?_);(clear hG);(rintro w3 ⟨⟨_,Hg⟩,rfl⟩);(try dsimp only);have fC:=Hg.size;(try simp at fC);(try have F1:=p0_ w w3);(try have F2:=p1_ w w3)
 have F0:=FA.below Hg n1;have Ga:=go.below Hg n2;have He:=Hc.trans (Hg.mono Hc.size);have y0':=(Hg.cell (p:=⟨b2,o2,none⟩) nG).trans y0;have y1':=(Hg.cell (p:=⟨b2,o2+1,none⟩) nG).trans y1;have g2:b2<w3.heap.size:=o_
 have n1:w.heap.size<w3.heap.size:=F0.lt;have n2:w.heap.size+1<w3.heap.size:=Ga.lt;have c1:(0:Int)<=(q:Int):=o_
 have c3:(q:Int)<(ls.length:Int):=o_
 have g1:bl<w3.heap.size:=o_
 clear x0 x1;have x0:=(He.cell (p:=⟨bl,offl+q*2,none⟩) Hd).trans k2;have x1:=(He.cell (p:=⟨bl,offl+q*2+1,none⟩) Hd).trans k3;clear Hg F1 F2 FA go Hc a_0 a_1 y0 y1 k0 k1 k2 k3;obtain⟨a_0,a_1⟩:=F0.c2
 go_wp2_with fail
 (refine z7 k_ k_ (fun hG=>?_))
 repeat (go_big_quiet_step ((go_at_call 188;exact zE (Q4 (ndI ls q) _ _ _ Wl.out))))
 (refine wpQuiet_nil ?_);(clear hG);(rintro w4 ⟨⟨_,H5⟩,rfl⟩);(try dsimp only);have BA:=H5.size;(try simp at BA)
 have bX:=F0.below H5 n1;have GY:=Ga.below H5 n2;have Ho:=He.trans (H5.mono He.size);have y0:=(H5.cell (p:=⟨b2,o2,none⟩) g2).trans y0';have y1:=(H5.cell (p:=⟨b2,o2+1,none⟩) g2).trans y1';have g2':b2<w4.heap.size:=o_
 have n1:w.heap.size<w4.heap.size:=bX.lt;have n2:w.heap.size+1<w4.heap.size:=GY.lt;clear H5 F0 Ga He a_0 a_1 y0' y1' x0 x1 g2;obtain⟨a_0,a_1⟩:=bX.c2
 go_wp2_with fail
 have Ue:=h_ (hT.below Ho);have Uf:=hD.below Ho;clear hT hD
 go_cut [9] (fun s9 wx=>∃(x:Nat) (A:Option Addr) (c:Nat),s9= .pointer (some ⟨x,0,none⟩)/\w4.heap.size<=x/\Below w4.heap.size w4 wx/\
   Blk wx x 27 #[.slice A (T.length+D.length) c,.slice none 0 0]/\OwnP 106 w4.heap.size wx (.slice A (T.length+D.length) c) (T++D)/\∀k,(Value.slice A (T.length+D.length) c).ownBlock =some k->¬k=x)
 case first=>
  have c2:(0:Int)<=(m:Int):=o_
  have c4:(m:Int)+1<=(ns.length:Int):=o_
  have c1':(m:Int)<=(m:Int)+1:=o_
  have c5:(0:Int)<=(m:Int)+1:=o_
  have c6:((m:Int)+1).toNat =m+1:=o_
  have Bm:IntKind.i64.wrap ((m:Int)+1)=(m:Int)+1:=aaP _ o_;have ne4:¬w4.heap.size=w.heap.size:=o_
  have ne41:¬w4.heap.size+1=w.heap.size:=o_
  by_cases fM:cn=m+1
  ·subst fM
   rw[aao rfl,show ns.length -(m+1)=0 by omega,aae] at Uf;have Ug:=h_ Uf;clear Uf
   go_region_held3 (fun w'=>w'.cell? ⟨w.heap.size,0,none⟩=some (.slice (some ⟨b,off,none⟩) ns.length (m+1)))
    (go_keep)
    (first|(refine qe rfl _ _ _ rfl i0 Tryz.underlying24 hi iz0 iz1 iz2 w4 w4.heap.size (.slice (some ⟨_,0,none⟩) 0 0) (.slice (some ⟨b,off,none⟩) m (m+1)) [] T rfl rfl (BoxO.start w4 (by simp) rfl) Ue.out (by simp;have:=Ch.out;omega) ?_;intro A3 c3 w3 GJ;have rQ:=h_ GJ;clear GJ;(have Hg:=rQ.out.2.1);(have GK:=fun (b o:Nat) (h:b<w4.heap.size)=>Hg.cell (p:=⟨b,o,none⟩) h);clear Hg)|(refine qe rfl _ _ _ rfl i0 Tryz.underlying24 hi iz0 iz1 iz2 w4 (w4.heap.size+1) (.slice (some ⟨_,0,none⟩) 0 0) (.slice (some ⟨b,off,none⟩) m (m+1)) [] T rfl rfl ((BoxN.start w4 (by simp)).box (by simp)) Ue.out (by simp;have:=Ch.out;omega) ?_;intro A3 c3 w3 GJ;have rQ:=h_ GJ;clear GJ;(have Hg:=rQ.out.2.1);(have GK:=fun (b o:Nat) (h:b<w4.heap.size)=>Hg.cell (p:=⟨b,o,none⟩) h);clear Hg)|(refine jZ rfl _ _ _ rfl i0 Tryz.underlying24 hi iz0 iz1 iz2 w4 (.slice (some ⟨_,0,none⟩) 0 0) (.slice (some ⟨b,off,none⟩) m (m+1)) [] T rfl rfl (BoxN.start w4 (by simp)) Ue.out (by simp;have:=Ch.out;omega) ?_;intro A3 c3 w3 GJ;have Uh:=h_ GJ;clear GJ;(have Hg:=Uh.out.2);(have GK:=fun (b o:Nat) (h:b<w4.heap.size)=>Hg.cell (p:=⟨b,o,none⟩) h);(have fC:=Hg.size);(have p3:w.heap.size<w3.heap.size:=by omega);(have ne3:¬w3.heap.size=w.heap.size:=by omega);clear Hg)|(refine qe rfl _ _ _ rfl i0 Tryz.underlying24 hi iz0 iz1 iz2 w4 _ (.slice A3 T.length c3) (.slice (some ⟨b,off,none⟩) 0 0) T D rfl rfl rQ.out Ug.out (by have:=Ch.out;have:=NT.out;omega) ?_;intro A5 c5 w5 GL;have FE:=h_ GL;clear GL;(have gk:=FE.out.2.1);(have Cs:=fun (b o:Nat) (h:b<w4.heap.size)=>gk.cell (p:=⟨b,o,none⟩) h);clear gk;(have zf0:=FE.out.2.2.1.frozen 0);(have zf1:=FE.out.2.2.1.frozen 1);(have zc0:=FE.out.2.2.1.cell 0);(have zc1:=FE.out.2.2.1.cell 1))|(refine qe rfl _ _ _ rfl i0 Tryz.underlying24 hi iz0 iz1 iz2 w4 w3.heap.size (.slice A3 T.length c3) (.slice (some ⟨b,off,none⟩) 0 0) T D rfl rfl (Uh.out.box rfl) Ug.out (by have:=Ch.out;have:=NT.out;omega) ?_;intro A5 c5 w5 GL;have FE:=h_ GL;clear GL;(have gk:=FE.out.2.1);(have Cs:=fun (b o:Nat) (h:b<w4.heap.size)=>gk.cell (p:=⟨b,o,none⟩) h);clear gk;(have zf0:=FE.out.2.2.1.frozen 0);(have zf1:=FE.out.2.2.1.frozen 1);(have zc0:=FE.out.2.2.1.cell 0);(have zc1:=FE.out.2.2.1.cell 1))|(refine jZ rfl _ _ _ rfl i0 Tryz.underlying24 hi iz0 iz1 iz2 w4 (.slice A3 T.length c3) (.slice (some ⟨b,off,none⟩) 0 0) T D rfl rfl Uh.out Ug.out (by have:=Ch.out;have:=NT.out;omega) ?_;intro A5 c5 w5 GL;have Yz:=h_ GL;clear GL;(have gk:=Yz.out.2);(have Cs:=fun (b o:Nat) (h:b<w4.heap.size)=>gk.cell (p:=⟨b,o,none⟩) h);clear gk))
   all_goals go_wp2
   all_goals go_meet
   all_goals (first|(have hF:=FE.out.filled;rw[aaW] at hF;exact⟨_,A5,c5,rfl,hF⟩)|(have hF:=Yz.out.filled;rw[aaW] at hF;exact⟨_,A5,c5,rfl,hF⟩))
  ·have c1:(m:Int)<=(cn:Int):=o_
   rw[aaq fM] at Uf;have Ug:=h_ Uf;clear Uf
   go_region_held3 (fun w'=>w'.cell? ⟨w.heap.size,0,none⟩=some (.slice (some ⟨b,off,none⟩) ns.length cn))
    (go_keep)
    (first|(refine qe rfl _ _ _ rfl i0 Tryz.underlying24 hi iz0 iz1 iz2 w4 w4.heap.size (.slice (some ⟨_,0,none⟩) 0 0) (.slice (some ⟨b,off,none⟩) m cn) [] T rfl rfl (BoxO.start w4 (by simp) rfl) Ue.out (by simp;have:=Ch.out;omega) ?_;intro A3 c3 w3 GJ;have rQ:=h_ GJ;clear GJ;(have Hg:=rQ.out.2.1);(have GK:=fun (b o:Nat) (h:b<w4.heap.size)=>Hg.cell (p:=⟨b,o,none⟩) h);clear Hg)|(refine qe rfl _ _ _ rfl i0 Tryz.underlying24 hi iz0 iz1 iz2 w4 (w4.heap.size+1) (.slice (some ⟨_,0,none⟩) 0 0) (.slice (some ⟨b,off,none⟩) m cn) [] T rfl rfl ((BoxN.start w4 (by simp)).box (by simp)) Ue.out (by simp;have:=Ch.out;omega) ?_;intro A3 c3 w3 GJ;have rQ:=h_ GJ;clear GJ;(have Hg:=rQ.out.2.1);(have GK:=fun (b o:Nat) (h:b<w4.heap.size)=>Hg.cell (p:=⟨b,o,none⟩) h);clear Hg)|(refine jZ rfl _ _ _ rfl i0 Tryz.underlying24 hi iz0 iz1 iz2 w4 (.slice (some ⟨_,0,none⟩) 0 0) (.slice (some ⟨b,off,none⟩) m cn) [] T rfl rfl (BoxN.start w4 (by simp)) Ue.out (by simp;have:=Ch.out;omega) ?_;intro A3 c3 w3 GJ;have Uh:=h_ GJ;clear GJ;(have Hg:=Uh.out.2);(have GK:=fun (b o:Nat) (h:b<w4.heap.size)=>Hg.cell (p:=⟨b,o,none⟩) h);(have fC:=Hg.size);(have p3:w.heap.size<w3.heap.size:=by omega);(have ne3:¬w3.heap.size=w.heap.size:=by omega);clear Hg)|(refine qe rfl _ _ _ rfl i0 Tryz.underlying24 hi iz0 iz1 iz2 w4 _ (.slice A3 T.length c3) (.slice (some ⟨b,off+(m+1)*2,none⟩) (ns.length -(m+1)) (cn -(m+1))) T D rfl rfl rQ.out Ug.out (by have:=Ch.out;have:=NT.out;omega) ?_;intro A5 c5 w5 GL;have FE:=h_ GL;clear GL;(have gk:=FE.out.2.1);(have Cs:=fun (b o:Nat) (h:b<w4.heap.size)=>gk.cell (p:=⟨b,o,none⟩) h);clear gk;(have zf0:=FE.out.2.2.1.frozen 0);(have zf1:=FE.out.2.2.1.frozen 1);(have zc0:=FE.out.2.2.1.cell 0);(have zc1:=FE.out.2.2.1.cell 1))|(refine qe rfl _ _ _ rfl i0 Tryz.underlying24 hi iz0 iz1 iz2 w4 w3.heap.size (.slice A3 T.length c3) (.slice (some ⟨b,off+(m+1)*2,none⟩) (ns.length -(m+1)) (cn -(m+1))) T D rfl rfl (Uh.out.box rfl) Ug.out (by have:=Ch.out;have:=NT.out;omega) ?_;intro A5 c5 w5 GL;have FE:=h_ GL;clear GL;(have gk:=FE.out.2.1);(have Cs:=fun (b o:Nat) (h:b<w4.heap.size)=>gk.cell (p:=⟨b,o,none⟩) h);clear gk;(have zf0:=FE.out.2.2.1.frozen 0);(have zf1:=FE.out.2.2.1.frozen 1);(have zc0:=FE.out.2.2.1.cell 0);(have zc1:=FE.out.2.2.1.cell 1))|(refine jZ rfl _ _ _ rfl i0 Tryz.underlying24 hi iz0 iz1 iz2 w4 (.slice A3 T.length c3) (.slice (some ⟨b,off+(m+1)*2,none⟩) (ns.length -(m+1)) (cn -(m+1))) T D rfl rfl Uh.out Ug.out (by have:=Ch.out;have:=NT.out;omega) ?_;intro A5 c5 w5 GL;have Yz:=h_ GL;clear GL;(have gk:=Yz.out.2);(have Cs:=fun (b o:Nat) (h:b<w4.heap.size)=>gk.cell (p:=⟨b,o,none⟩) h);clear gk))
   all_goals go_wp2
   all_goals go_meet
   all_goals (first|(have hF:=FE.out.filled;rw[aaW] at hF;exact⟨_,A5,c5,rfl,hF⟩)|(have hF:=Yz.out.filled;rw[aaW] at hF;exact⟨_,A5,c5,rfl,hF⟩))
 case rest=>
  obtain⟨x,A,c,rfl,hx,Fl,hO,Ct,hax⟩:=hcut;obtain⟨w6,CV⟩:∃w6:World,w6=wc:=⟨_,rfl⟩;subst CV;obtain⟨N,HN⟩:∃N,N=T++D:=⟨_,rfl⟩;rw[<-HN] at Ct hTD;have YA:T.length+D.length=N.length:=by rw[HN,aaW]
  rw[YA] at hO Ct hax;clear HN YA Ue Uf;go_wp2
  go_loopw [10] (fun i wr=>∃j:Nat,j<=ls.length/\i= .int .i64 j/\∃A' c',OwnW w4.heap.size wr (.slice A N.length c) (.slice A' (jwo ls m p q (mn2 (t:Int) u,mx2 (t:Int) u) j).length c') N (jwo ls m p q (mn2 (t:Int) u,mx2 (t:Int) u) j)/\
    Blk wr x 27 #[.slice A N.length c,.slice A' (jwo ls m p q (mn2 (t:Int) u,mx2 (t:Int) u) j).length c']/\(∀k,zp (.slice A N.length c) (.slice A' (jwo ls m p q (mn2 (t:Int) u,mx2 (t:Int) u) j).length c') k->¬k=x)/\Below w4.heap.size w4 wr) (fun i _=>ls.length -(intOf i).toNat)
  case atStart=>exact⟨0,aab _,rfl,none,0,⟨Ct,OwnP.nil _ _ _,by intro k _ h2;cases h2⟩,hO,(by rintro k (h|h);exact hax k h;cases h),Fl⟩
  case round=>
   obtain⟨j,Fb,rfl,A',c',ho,hO,CK,hb⟩:=hrel;clear Fl Ct hax a_0 a_1;have hA:=bX.below hb n1;have hR:=GY.below hb n2;have n1':w.heap.size<wr.heap.size:=hA.lt;have n2':w.heap.size+1<wr.heap.size:=hR.lt;have n3':x<wr.heap.size:=hO.lt;have n4':w4.heap.size<=wr.heap.size:=hb.size;obtain⟨a_0,a_1⟩:=hA.c2;obtain⟨o_0,o_1,o_f0,o_f1⟩:=hO.b2;have y0':=(hb.cell (p:=⟨b2,o2,none⟩) g2').trans y0;have y1':=(hb.cell (p:=⟨b2,o2+1,none⟩) g2').trans y1;have g3:b2<wr.heap.size:=o_
   have hG:=z1z ls m p q (mn2 (t:Int) u,mx2 (t:Int) u) j
   by_cases Hf:j<ls.length
   ·obtain⟨k0,k1⟩:=Fk.out j Hf
    have q0:=(hb.cell (p:=⟨bl,offl+j*2,none⟩) (by have:=Ho.size;show bl<w4.heap.size;omega)).trans ((Ho.cell (p:=⟨bl,offl+j*2,none⟩) Hd).trans k0);have q1:=(hb.cell (p:=⟨bl,offl+j*2+1,none⟩) (by have:=Ho.size;show bl<w4.heap.size;omega)).trans ((Ho.cell (p:=⟨bl,offl+j*2+1,none⟩) Hd).trans k1);obtain⟨⟨be1,be2⟩,be3,be4⟩:=mR.out j Hf;clear k0 k1;have c1:(0:Int)<=(j:Int):=o_
    have c3:(j:Int)<(ls.length:Int):=o_
    by_cases Ui:j=q
    ·have HS:Hid (jwo ls m p q (mn2 (t:Int) u,mx2 (t:Int) u) (j+1)=jwo ls m p q (mn2 (t:Int) u,mx2 (t:Int) u) j):=h_ (by simp[jwo,Ui])
     have s1:((j:Int)==(q:Int))=true:=by simp[Ui]
     clear Ui;generalize (ndI ls j).1=e1 at*;generalize (ndI ls j).2=e2 at*;have HB:Hid (Below w4.heap.size w4 (wr.alloc (.cells #[.int .i64 e1,.int .i64 e2] 108))):=h_ bel_;go_wp2;go_roundw
     case rel=>exact⟨j+1,by omega,by go_num,A',c',by rw[HS.out];exact ho.alloc _,by rw[HS.out];exact hO.alloc _,by rw[HS.out];exact CK,HB.out⟩
     case measure=>simp[intOf];omega
    ·have s1:((j:Int)==(q:Int))=false:=by simp;omega
     by_cases YB:j=p
     ·have bK:Hid (jwo ls m p q (mn2 (t:Int) u,mx2 (t:Int) u) (j+1)=jwo ls m p q (mn2 (t:Int) u,mx2 (t:Int) u) j++[(dnI m (mn2 (t:Int) u),dnI m (mx2 (t:Int) u))]):=h_ (by subst YB;simp[jwo,Ui,dnP])
      have s3:((j:Int)==(p:Int))=true:=by simp[YB]
      clear YB Ui;generalize (ndI ls j).1=e1 at*;generalize (ndI ls j).2=e2 at*;generalize jwo ls m p q (mn2 (t:Int) u,mx2 (t:Int) u) j=G at*;have ee1: -1000000<=mn2 (t:Int) u/\mn2 (t:Int) u<=1000000:=by rw[Qw];omega
      have ee2: -1000000<=mx2 (t:Int) u/\mx2 (t:Int) u<=1000000:=by rw[vW];omega
      obtain⟨ef1,ef2⟩:=ee1;obtain⟨ef3,ef4⟩:=ee2
      by_cases h1:(m:Int)<mn2 (t:Int) u
      ·by_cases h2:(m:Int)<mx2 (t:Int) u
       ·have HS:Hid (jwo ls m p q (mn2 (t:Int) u,mx2 (t:Int) u) (j+1)=G++[(mn2 (t:Int) u -1,mx2 (t:Int) u -1)]):=h_ (by rw[bK.out];simp[dnI,h1,h2])
        go_wp2_with (at_builtin;refine zj rfl _ _ _ rfl w4.heap.size 108 j0 Tryz.underlying25 hj jz0 jz1 jz2 (.slice A' G.length c') _ G [(mn2 (t:Int) u -1,mx2 (t:Int) u -1)] rfl rfl ((ho.2.1.alloc _).alloc _) (j6 (by simp) rfl rfl rfl (by simp[maxLen])) (by simp;omega) (by simp;omega) ?_)
        intro A3 c3 w3 Hq gq Fa;have HN:=h_ (kg hx hO CK hb ho Hq gq Fa);have GI:=HN.out.2.2.2.2;clear Fa gq hb ho hO CK a_0 a_1 o_0 o_1 o_f0 o_f1 q0 q1 Hq;obtain⟨o_0,o_1,o_f0,o_f1⟩:=GI.b2;clear GI;go_wp2;go_roundw
        case rel=>exact⟨j+1,by omega,by go_num,A3,c3,by rw[HS.out];exact HN.out.1,by rw[HS.out];exact HN.out.2.1,by rw[HS.out];exact HN.out.2.2.1,HN.out.2.2.2.1⟩
        case measure=>simp[intOf];omega
       ·have HS:Hid (jwo ls m p q (mn2 (t:Int) u,mx2 (t:Int) u) (j+1)=G++[(mn2 (t:Int) u -1,mx2 (t:Int) u)]):=h_ (by rw[bK.out];simp[dnI,h1,h2])
        go_wp2_with (at_builtin;refine zj rfl _ _ _ rfl w4.heap.size 108 j0 Tryz.underlying25 hj jz0 jz1 jz2 (.slice A' G.length c') _ G [(mn2 (t:Int) u -1,mx2 (t:Int) u)] rfl rfl ((ho.2.1.alloc _).alloc _) (j6 (by simp) rfl rfl rfl (by simp[maxLen])) (by simp;omega) (by simp;omega) ?_)
        intro A3 c3 w3 Hq gq Fa;have HN:=h_ (kg hx hO CK hb ho Hq gq Fa);have GI:=HN.out.2.2.2.2;clear Fa gq hb ho hO CK a_0 a_1 o_0 o_1 o_f0 o_f1 q0 q1 Hq;obtain⟨o_0,o_1,o_f0,o_f1⟩:=GI.b2;clear GI;go_wp2;go_roundw
        case rel=>exact⟨j+1,by omega,by go_num,A3,c3,by rw[HS.out];exact HN.out.1,by rw[HS.out];exact HN.out.2.1,by rw[HS.out];exact HN.out.2.2.1,HN.out.2.2.2.1⟩
        case measure=>simp[intOf];omega
      ·by_cases h2:(m:Int)<mx2 (t:Int) u
       ·have HS:Hid (jwo ls m p q (mn2 (t:Int) u,mx2 (t:Int) u) (j+1)=G++[(mn2 (t:Int) u,mx2 (t:Int) u -1)]):=h_ (by rw[bK.out];simp[dnI,h1,h2])
        go_wp2_with (at_builtin;refine zj rfl _ _ _ rfl w4.heap.size 108 j0 Tryz.underlying25 hj jz0 jz1 jz2 (.slice A' G.length c') _ G [(mn2 (t:Int) u,mx2 (t:Int) u -1)] rfl rfl ((ho.2.1.alloc _).alloc _) (j6 (by simp) rfl rfl rfl (by simp[maxLen])) (by simp;omega) (by simp;omega) ?_)
        intro A3 c3 w3 Hq gq Fa;have HN:=h_ (kg hx hO CK hb ho Hq gq Fa);have GI:=HN.out.2.2.2.2;clear Fa gq hb ho hO CK a_0 a_1 o_0 o_1 o_f0 o_f1 q0 q1 Hq;obtain⟨o_0,o_1,o_f0,o_f1⟩:=GI.b2;clear GI;go_wp2;go_roundw
        case rel=>exact⟨j+1,by omega,by go_num,A3,c3,by rw[HS.out];exact HN.out.1,by rw[HS.out];exact HN.out.2.1,by rw[HS.out];exact HN.out.2.2.1,HN.out.2.2.2.1⟩
        case measure=>simp[intOf];omega
       ·have HS:Hid (jwo ls m p q (mn2 (t:Int) u,mx2 (t:Int) u) (j+1)=G++[(mn2 (t:Int) u,mx2 (t:Int) u)]):=h_ (by rw[bK.out];simp[dnI,h1,h2])
        go_wp2_with (at_builtin;refine zj rfl _ _ _ rfl w4.heap.size 108 j0 Tryz.underlying25 hj jz0 jz1 jz2 (.slice A' G.length c') _ G [(mn2 (t:Int) u,mx2 (t:Int) u)] rfl rfl ((ho.2.1.alloc _).alloc _) (j6 (by simp) rfl rfl rfl (by simp[maxLen])) (by simp;omega) (by simp;omega) ?_)
        intro A3 c3 w3 Hq gq Fa;have HN:=h_ (kg hx hO CK hb ho Hq gq Fa);have GI:=HN.out.2.2.2.2;clear Fa gq hb ho hO CK a_0 a_1 o_0 o_1 o_f0 o_f1 q0 q1 Hq;obtain⟨o_0,o_1,o_f0,o_f1⟩:=GI.b2;clear GI;go_wp2;go_roundw
        case rel=>exact⟨j+1,by omega,by go_num,A3,c3,by rw[HS.out];exact HN.out.1,by rw[HS.out];exact HN.out.2.1,by rw[HS.out];exact HN.out.2.2.1,HN.out.2.2.2.1⟩
        case measure=>simp[intOf];omega
     ·have bK:Hid (jwo ls m p q (mn2 (t:Int) u,mx2 (t:Int) u) (j+1)=jwo ls m p q (mn2 (t:Int) u,mx2 (t:Int) u) j++[(dnI m (ndI ls j).1,dnI m (ndI ls j).2)]):=h_ (by simp[jwo,Ui,YB,dnP])
      have s3:((j:Int)==(p:Int))=false:=by simp;omega
      clear YB Ui;generalize (ndI ls j).1=e1 at*;generalize (ndI ls j).2=e2 at*;generalize jwo ls m p q (mn2 (t:Int) u,mx2 (t:Int) u) j=G at*
      by_cases h1:(m:Int)<e1
      ·by_cases h2:(m:Int)<e2
       ·have HS:Hid (jwo ls m p q (mn2 (t:Int) u,mx2 (t:Int) u) (j+1)=G++[(e1 -1,e2 -1)]):=h_ (by rw[bK.out];simp[dnI,h1,h2])
        go_wp2_with (at_builtin;refine zj rfl _ _ _ rfl w4.heap.size 108 j0 Tryz.underlying25 hj jz0 jz1 jz2 (.slice A' G.length c') _ G [(e1 -1,e2 -1)] rfl rfl ((ho.2.1.alloc _).alloc _) (j6 (by simp) rfl rfl rfl (by simp[maxLen])) (by simp;omega) (by simp;omega) ?_)
        intro A3 c3 w3 Hq gq Fa;have HN:=h_ (kg hx hO CK hb ho Hq gq Fa);have GI:=HN.out.2.2.2.2;clear Fa gq hb ho hO CK a_0 a_1 o_0 o_1 o_f0 o_f1 q0 q1 Hq;obtain⟨o_0,o_1,o_f0,o_f1⟩:=GI.b2;clear GI;go_wp2;go_roundw
        case rel=>exact⟨j+1,by omega,by go_num,A3,c3,by rw[HS.out];exact HN.out.1,by rw[HS.out];exact HN.out.2.1,by rw[HS.out];exact HN.out.2.2.1,HN.out.2.2.2.1⟩
        case measure=>simp[intOf];omega
       ·have HS:Hid (jwo ls m p q (mn2 (t:Int) u,mx2 (t:Int) u) (j+1)=G++[(e1 -1,e2)]):=h_ (by rw[bK.out];simp[dnI,h1,h2])
        go_wp2_with (at_builtin;refine zj rfl _ _ _ rfl w4.heap.size 108 j0 Tryz.underlying25 hj jz0 jz1 jz2 (.slice A' G.length c') _ G [(e1 -1,e2)] rfl rfl ((ho.2.1.alloc _).alloc _) (j6 (by simp) rfl rfl rfl (by simp[maxLen])) (by simp;omega) (by simp;omega) ?_)
        intro A3 c3 w3 Hq gq Fa;have HN:=h_ (kg hx hO CK hb ho Hq gq Fa);have GI:=HN.out.2.2.2.2;clear Fa gq hb ho hO CK a_0 a_1 o_0 o_1 o_f0 o_f1 q0 q1 Hq;obtain⟨o_0,o_1,o_f0,o_f1⟩:=GI.b2;clear GI;go_wp2;go_roundw
        case rel=>exact⟨j+1,by omega,by go_num,A3,c3,by rw[HS.out];exact HN.out.1,by rw[HS.out];exact HN.out.2.1,by rw[HS.out];exact HN.out.2.2.1,HN.out.2.2.2.1⟩
        case measure=>simp[intOf];omega
      ·by_cases h2:(m:Int)<e2
       ·have HS:Hid (jwo ls m p q (mn2 (t:Int) u,mx2 (t:Int) u) (j+1)=G++[(e1,e2 -1)]):=h_ (by rw[bK.out];simp[dnI,h1,h2])
        go_wp2_with (at_builtin;refine zj rfl _ _ _ rfl w4.heap.size 108 j0 Tryz.underlying25 hj jz0 jz1 jz2 (.slice A' G.length c') _ G [(e1,e2 -1)] rfl rfl ((ho.2.1.alloc _).alloc _) (j6 (by simp) rfl rfl rfl (by simp[maxLen])) (by simp;omega) (by simp;omega) ?_)
        intro A3 c3 w3 Hq gq Fa;have HN:=h_ (kg hx hO CK hb ho Hq gq Fa);have GI:=HN.out.2.2.2.2;clear Fa gq hb ho hO CK a_0 a_1 o_0 o_1 o_f0 o_f1 q0 q1 Hq;obtain⟨o_0,o_1,o_f0,o_f1⟩:=GI.b2;clear GI;go_wp2;go_roundw
        case rel=>exact⟨j+1,by omega,by go_num,A3,c3,by rw[HS.out];exact HN.out.1,by rw[HS.out];exact HN.out.2.1,by rw[HS.out];exact HN.out.2.2.1,HN.out.2.2.2.1⟩
        case measure=>simp[intOf];omega
       ·have HS:Hid (jwo ls m p q (mn2 (t:Int) u,mx2 (t:Int) u) (j+1)=G++[(e1,e2)]):=h_ (by rw[bK.out];simp[dnI,h1,h2])
        go_wp2_with (at_builtin;refine zj rfl _ _ _ rfl w4.heap.size 108 j0 Tryz.underlying25 hj jz0 jz1 jz2 (.slice A' G.length c') _ G [(e1,e2)] rfl rfl ((ho.2.1.alloc _).alloc _) (j6 (by simp) rfl rfl rfl (by simp[maxLen])) (by simp;omega) (by simp;omega) ?_)
        intro A3 c3 w3 Hq gq Fa;have HN:=h_ (kg hx hO CK hb ho Hq gq Fa);have GI:=HN.out.2.2.2.2;clear Fa gq hb ho hO CK a_0 a_1 o_0 o_1 o_f0 o_f1 q0 q1 Hq;obtain⟨o_0,o_1,o_f0,o_f1⟩:=GI.b2;clear GI;go_wp2;go_roundw
        case rel=>exact⟨j+1,by omega,by go_num,A3,c3,by rw[HS.out];exact HN.out.1,by rw[HS.out];exact HN.out.2.1,by rw[HS.out];exact HN.out.2.2.1,HN.out.2.2.2.1⟩
        case measure=>simp[intOf];omega
   ·have GS:j=ls.length:=o_
    subst GS;obtain⟨G,HGe⟩:∃G,G=jwo ls m p q (mn2 (t:Int) u,mx2 (t:Int) u) ls.length:=⟨_,rfl⟩;rw[<-HGe] at ho hO CK cZ;clear HGe o_0 o_1 o_f0 o_f1;obtain⟨o_0,o_1,o_f0,o_f1⟩:=hO.b2;obtain⟨bw,mL⟩:∃b,winB (xS ns m) (xO ls m)=b:=⟨_,rfl⟩;have fY:=h_ mL;have hC:winB N G=bw:=by rw[<-hTD.out,<-cZ.out];exact mL
    clear mL;have Uj:Below w.heap.size w wr:=Ho.trans (hb.mono Ho.size)
    go_wp2_with fail
    refine(zH _ _ N G bw _ ho.1.reads ho.2.1.reads hC).mono ?_
    rintro e w7 ⟨rfl,f9⟩;have nC:=hA.below f9 n1';have C4:=hR.below f9 n2';have Bo:=hO.below f9 n3';have FV:=ho.kept f9;have GC:=Uj.trans (f9.mono Uj.size);have n8:w.heap.size+1<w7.heap.size:=C4.lt;clear f9 hA hR hO ho hb Uj CK a_0 a_1 o_0 o_1 o_f0 o_f1 y0' y1' hC
    cases bw
    ·have EB:j5 ns ls m=false:=by unfold j5;rw[fY.out,Bool.and_false]
     have EN:qr ns ls m=ns:=by unfold qr;rw[EB];rfl
     have EL:qs ns ls m=ls:=by unfold qs;rw[EB];rfl
     obtain⟨a_0,a_1⟩:=nC.c2
     go_wp2_with fail
     refine(zR _ _ ns ls _ (hn.below GC) (hl.below GC) h1 h2).mono ?_
     rintro e w8 ⟨An1,cn1,Al1,cl1,rfl,Wa,mH⟩;have nz:=C4.below mH n8;have C3:=GC.trans (mH.mono GC.size);have CH:=h_ (((Wa.setLow (p:=⟨w.heap.size+1,0,none⟩) n8 (.slice An1 ns.length cn1)).setLow (p:=⟨w.heap.size+1,1,none⟩) n8 (.slice Al1 ls.length cl1)).mono (show w.heap.size<=_ by omega));have HB:=h_ ((C3.setCell (p:=⟨w.heap.size+1,0,none⟩) sz_ (.slice An1 ns.length cn1)).setCell (p:=⟨w.heap.size+1,1,none⟩) sz_ (.slice Al1 ls.length cl1));clear Wa C3 mH nC C4 Bo FV GC a_0 a_1;obtain⟨r_0,r_1,r_f0,r_f1⟩:=nz.b2;go_wp2;exact bodyPost_ret (v:= .tuple #[.agg #[.slice An1 ns.length cn1,.slice Al1 ls.length cl1],.bool false]) (by simp[results,Tryz.results109,go_sem,r_0,r_1]) rfl (by show zI (qr ns ls m) (qs ns ls m) (j5 ns ls m) w _ _;rw[EB,EN,EL];exact zI.mk rfl rfl rfl CH.out HB.out)
    ·have EB:j5 ns ls m=true:=by unfold j5;rw[fY.out,hs];rfl
     have EN:qr ns ls m=N:=by unfold qr;rw[EB,hTD.out];rfl
     have EL:qs ns ls m=G:=by unfold qs;rw[EB,cZ.out];rfl
     have CH:=h_ (((FV.setLow (p:=⟨w.heap.size+1,0,none⟩) n2 (.slice A N.length c)).setLow (p:=⟨w.heap.size+1,1,none⟩) n2 (.slice A' G.length c')).mono (show w.heap.size<=_ by omega));have HB:=h_ ((GC.setCell (p:=⟨w.heap.size+1,0,none⟩) sz_ (.slice A N.length c)).setCell (p:=⟨w.heap.size+1,1,none⟩) sz_ (.slice A' G.length c'));clear FV GC nC;obtain⟨r_0,r_1,r_f0,r_f1⟩:=C4.b2;obtain⟨o_0,o_1,o_f0,o_f1⟩:=Bo.b2;clear C4 Bo;go_wp2;exact bodyPost_ret (v:= .tuple #[.agg #[.slice A N.length c,.slice A' G.length c'],.bool true]) (by simp[results,Tryz.results109,go_sem,r_0,r_1,o_0,o_1]) rfl (by show zI (qr ns ls m) (qs ns ls m) (j5 ns ls m) w _ _;rw[EB,EN,EL];exact zI.mk rfl rfl rfl CH.out HB.out)
theorem z5y (vn vl:Value) (ns ls:List Pr) (k:Int) (w:World) (hn:RP w vn ns) (hl:RP w vl ls) (h1:ns.length<=1048576) (h2:ls.length<=1048576):
  Calls Tryz.prog 109 #[.agg #[vn,vl],.int .i64 k] w (fun e w'=>zI (qr ns ls k) (qs ns ls k) (j5 ns ls k) w e w'):=by
 cases hs:zW ns ls k
 ·have EB:j5 ns ls k=false:=by unfold j5;rw[hs];rfl
  have EN:qr ns ls k=ns:=by unfold qr;rw[EB];rfl
  have EL:qs ns ls k=ls:=by unfold qs;rw[EB];rfl
  rw[EB,EN,EL];exact z7g vn vl ns ls k w hn hl h1 h2 hs
 ·obtain⟨m,p,q,t,u,rfl,hk,h⟩:=z3Q hs
  have hm:=h.hm;obtain⟨An,cn,rfl,FQ,_,hcell⟩:=hn.form;obtain⟨b,off,rfl,_⟩:=hcell o_;exact z65 vl ns ls (ns.take m) (ns.drop (m+1)) b off cn m p q t u w hn hl h1 h2 FQ (RP.take hn m o_) (h_ (by simp;omega)) (RP.drop hn (m+1) o_) (h_ (by simp)) hs hk h (h_ h.cn)
end Go.Proofs.YtnjcpljhmhdhkaaGreat
