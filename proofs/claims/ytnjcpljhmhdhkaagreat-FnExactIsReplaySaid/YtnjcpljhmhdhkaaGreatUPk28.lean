/- part 28 -/
import Derived.Test.YtnjcpljhmhdhkaaGreatUPk23
import Derived.Test.YtnjcpljhmhdhkaaGreatUPk25
import Derived.Test.YtnjcpljhmhdhkaaGreatUPk27
import Derived.Lib.SliceRun
import Derived.Deep.Upon
set_option linter.unusedSimpArgs false
set_option linter.unusedVariables false
set_option maxRecDepth 100000
set_option maxHeartbeats 16000000
namespace Go.Proofs.YtnjcpljhmhdhkaaGreat
open Go.RowKit
theorem z1F (l:List Dp):(l.flatMap Dp.cs).length =l.length*3:=zK Dp.cs 3 (fun _=>rfl) l
theorem z6g (ls:List Dp) (k:Nat):(ls.drop k).flatMap Dp.cs=(ls.flatMap Dp.cs).drop (k*3):=by
 induction ls generalizing k with
 |nil=>simp
 |cons p ls ih=>
  cases k with
  |zero=>simp
  |succ k=>
   rw[List.drop_succ_cons,ih,aam,show(k+1)*3=k*3+3 by omega];simp[Dp.cs]
theorem z9V (ls:List Dp) (k:Nat):(ls.take k).flatMap Dp.cs=(ls.flatMap Dp.cs).take (k*3):=by
 induction ls generalizing k with
 |nil=>simp
 |cons p ls ih=>
  cases k with
  |zero=>simp
  |succ k=>
   rw[List.take_succ_cons,aam,ih,aam,show(k+1)*3=k*3+3 by omega];simp[Dp.cs]
theorem z8C (l:List Dp):∀u∈l.flatMap Dp.cs,u.oneCell'=true:=jD l
theorem z3x {base g cap:Nat} {w:World} {ls:List Dp} {k:Nat} (h:zk base w (.slice (some ⟨g,0,none⟩) ls.length cap) ls) (hk:k<ls.length):
  zk base (w.setCells g (k*3) ((ls.drop (k+1)).flatMap Dp.cs)) (.slice (some ⟨g,0,none⟩) (ls.length -1) cap) (ls.take k++ls.drop (k+1)):=by
 have Hi:(ls.take k++ls.drop (k+1)).length =ls.length -1:=by simp;omega
 have cD:((ls.drop (k+1)).flatMap Dp.cs).length =(ls.length -(k+1))*3:=by rw[z1F];simp
 refine⟨z1F _,?_⟩
 rcases h.2 with ⟨e,_⟩|⟨g',cap',cur,e,hb,hh,cO,Co,gj,Fy⟩
 ·cases e
 ·cases e
  have M3:ls.length*3<=cur.size:=by rw[gj];exact Nat.mul_le_mul_right 3 cO
  have Hk:=xn g 48 ((ls.drop (k+1)).flatMap Dp.cs) (k*3) w cur hh (by rw[cD];omega);refine .inr ⟨g,cap,_,by rw[Hi],hb,Hk,by rw[Hi];omega,Co,?_,?_⟩
  ·simp only[List.size_toArray,aaX,abn,List.length_drop,cD,Array.length_toList]
   omega
  ·rw[Hi,aaY,z6g,z9V,<-Fy]
   have hc:cur.toList.length=cur.size:=Array.length_toList;have uU:(List.take (k*3) cur.toList).length =k*3:=by rw[abn,hc];omega
   have e3:(List.drop ((k+1)*3) (List.take (ls.length*3) cur.toList)).length =(ls.length -1)*3 -k*3:=by rw[List.length_drop,abn,hc];omega
   show List.take ((ls.length -1)*3) (List.take (k*3) cur.toList++_++_)=_
   rw[aay,List.take_append,uU,aaL (by rw[uU];omega),List.take_left' e3,List.take_take,Nat.min_eq_left o_]
theorem z72 {base g n cap:Nat} {w:World} {ls:List Dp} {vs:List Value} (h:zk base w (.slice (some ⟨g,0,none⟩) n cap) ls) (hn:n=ls.length) (hv:n*3+vs.length<=cap*3):
  zk base (w.setCells g (n*3) vs) (.slice (some ⟨g,0,none⟩) n cap) ls:=by
 subst hn;refine⟨h.1,?_⟩
 rcases h.2 with ⟨e,_⟩|⟨g',cap',cur,e,hb,hh,cO,Co,gj,Fy⟩
 ·cases e
 ·cases e
  have Hk:=xn g 48 vs (ls.length*3) w cur hh (by rw[gj];exact hv);refine .inr ⟨g,cap,_,rfl,hb,Hk,cO,Co,?_,?_⟩
  ·simp only[List.size_toArray,aaX,abn,List.length_drop,Array.length_toList]
   omega
  ·have M3:ls.length*3<=cur.size:=by rw[gj];exact Nat.mul_le_mul_right 3 cO
   have hc:cur.toList.length=cur.size:=Array.length_toList;have uU:(List.take (ls.length*3) cur.toList).length =ls.length*3:=by rw[abn,hc];omega
   show List.take (ls.length*3) (List.take (ls.length*3) cur.toList++_++_)=_
   rw[aay,List.take_left' uU];exact Fy
theorem JY {P:Program} {w:World} {t ty:TypeId} {i:TypeInfo} {base g cap c2:Nat} {ls:List Dp} {k:Nat} (ht:P.underlying t=some (.slice 48)) (hi:P.info? 48=some i) (H7:i.size=3)
  (h:zk base w (.slice (some ⟨g,0,none⟩) ls.length cap) ls) (hk:k<ls.length):
  (Builtin.append_ #[t,t] ty #[.slice (some ⟨g,0,none⟩) k cap,.slice (if cap=k+1 then some ⟨g,0,none⟩ else some ⟨g,(k+1)*3,none⟩) (ls.length -(k+1)) c2]).run P w=
   .ok (.slice (some ⟨g,0,none⟩) (ls.length -1) cap) (w.setCells g (k*3) ((ls.drop (k+1)).flatMap Dp.cs)):=by
 have bP:ls.length<=cap:=by
  rcases h.2 with ⟨e,_⟩|⟨g',cap',cur,e,hb,hh,cO,Co,gj,Fy⟩
  ·cases e
  ·cases e;exact cO
 have cD:((ls.drop (k+1)).flatMap Dp.cs).length =(ls.length -(k+1))*3:=by rw[z1F,List.length_drop]
 have GB:=z1F ls;have ho:w.ownsRow base 48 3 (.slice (some ⟨g,0,none⟩) ls.length cap) ls.length (ls.flatMap Dp.cs):=h;have hcell:∀j,j<ls.length*3->w.cell? ⟨g,j,none⟩=(ls.flatMap Dp.cs)[j]? :=fun j hj=>ho.cellAt j o_
 have WW:Src P i.size t (.slice (if cap=k+1 then some ⟨g,0,none⟩ else some ⟨g,(k+1)*3,none⟩) (ls.length -(k+1)) c2) (ls.length -(k+1)) ((ls.drop (k+1)).flatMap Dp.cs) w:=by
  by_cases fK:cap=k+1
  ·rw[aao fK]
   have e0:ls.length -(k+1)=0:=o_
   refine Src.ofSlice w ht _ _ _ _ (by rw[H7];exact cD) ?_ (z8C _)
   intro j u hu;have hj:=(List.getElem?_eq_some_iff.1 hu).1;rw[cD] at hj;omega
  ·rw[aaq fK]
   refine Src.ofSlice w ht _ _ _ _ (by rw[H7];exact cD) ?_ (z8C _)
   intro j u hu;have hj:=(List.getElem?_eq_some_iff.1 hu).1;rw[cD] at hj;rw[kL,hcell _ o_,<-hu,z6g,List.getElem?_drop]
 have hr:=run_append_room_src (P:=P) w t t ty 48 i ht hi g 0 k cap _ (ls.length -(k+1)) ((ls.drop (k+1)).flatMap Dp.cs) WW o_
  (fun j hj=>by rw[cD] at hj;rw[H7,aaG,hcell _ o_,aac o_];rfl)
  (fun j hj=>ho.frozenAt _)
 rw[H7,aaG,show k+(ls.length -(k+1))=ls.length -1 by omega] at hr;exact hr
theorem Ja {P:Program} {w:World} {ops:Array Oper} {rest:List Oper} {o:Oper} {a:Act} {Q:Exit->Act->World->Prop} (FH:o.guard=none) (s x:Operand) (t:TypeId)
  (ho:o.op= .call { callee:= .builtin .append,args:= #[s,x],argTypes:= #[t,t] })
  (base:Nat) (i:TypeInfo) (ht:P.underlying t=some (.slice 48)) (hi:P.info? 48=some i) (H7:i.size=3) (g cap c2:Nat) (ls:List Dp) (k:Nat)
  (hs:a.eval s= .slice (some ⟨g,0,none⟩) k cap) (hx:a.eval x= .slice (if cap=k+1 then some ⟨g,0,none⟩ else some ⟨g,(k+1)*3,none⟩) (ls.length -(k+1)) c2)
  (hown:zk base w (.slice (some ⟨g,0,none⟩) ls.length cap) ls) (hk:k<ls.length)
  (h:∀w',zk base w' (.slice (some ⟨g,0,none⟩) (ls.length -1) cap) (ls.take k++ls.drop (k+1))->w.grownBy w' (some g)->wpList P ops Q rest (a.put o.dst (.slice (some ⟨g,0,none⟩) (ls.length -1) cap)) w'):
  wpList P ops Q (o::rest) a w:=
 wpList_plain FH fun K hK=>by
  have GC:=JY (ty:=o.type) (c2:=c2) ht hi H7 hown hk;unfold Oper.wp execOp;simp only[ho,resolve,invoke,builtin,Sem.run_bind,Sem.run_pure,aaZ,List.map_toArray,aaT,aaU,hs,hx,GC]
  exact hK _ _ (h _ (z3x hown hk) ⟨World.os_setCells _ _ _ _,jG _ _ _ _,World.output_setCells _ _ _ _,by rw[yU];exact aaa _,fun i hi gr=>World.heap_setCells_other _ _ _ _ hi (fun e=>gr (by rw[e]))⟩)
theorem z0g {P:Program} (w:World) (t ty:TypeId) (ht:P.underlying t=some (.slice 48)) (hv:∀w,(zeroValue 48).run P w= .ok (.agg #[.int .i64 0,.int .i64 0,.int .i64 0]) w) (b o c:Nat)
  (hc:∀j,j<3->(w.cell? ⟨b,o+j,none⟩).isSome =true) (hf:∀j,j<3->w.frozen? ⟨b,o+j,none⟩=false):
  (Builtin.clear_ #[t] ty #[.slice (some ⟨b,o,none⟩) 1 c]).run P w= .ok (.tuple #[]) (w.setCells b o [.int .i64 0,.int .i64 0,.int .i64 0]):=by
 have hzc:(Builtin.zeroCells (Value.agg #[.int .i64 0,.int .i64 0,.int .i64 0]).cells 1).toList =[.int .i64 0,.int .i64 0,.int .i64 0]:=by
  simp[Builtin.zeroCells,Value.cells,abf]
 have UM:=run_storeCells_cells (P:=P) b o [.int .i64 0,.int .i64 0,.int .i64 0] 0 w (by simpa using hc) (by simpa using hf) (by intro v hv';simp at hv';subst hv';rfl);simp only[aaf] at UM
 simp[Builtin.clear_,run_underlying ht,hv,hzc,UM]
theorem z3J (w:World):(zeroValue 48).run Tryz.prog w= .ok (.agg #[.int .i64 0,.int .i64 0,.int .i64 0]) w:=rfl
theorem z0r {P:Program} {w:World} {t ty:TypeId} {base g n cap c:Nat} {ls:List Dp} (ht:P.underlying t=some (.slice 48)) (hv:∀w,(zeroValue 48).run P w= .ok (.agg #[.int .i64 0,.int .i64 0,.int .i64 0]) w)
  (hn:n=ls.length) (bP:n<cap) (hown:zk base w (.slice (some ⟨g,0,none⟩) n cap) ls):
  ∃w',(Builtin.clear_ #[t] ty #[.slice (some ⟨g,n*3,none⟩) 1 c]).run P w= .ok (.tuple #[]) w'/\zk base w' (.slice (some ⟨g,0,none⟩) n cap) ls/\w.grownBy w' (some g):=by
 have M3:∃cur:Array Value,w.heap[g]? =some (.cells cur 48 (0,0))/\cur.size=cap*3:=by
  rcases hown.2 with ⟨e,_⟩|⟨g',cap',cur,e,hb,hh,cO,Co,gj,Fy⟩
  ·cases e
  ·cases e;exact⟨cur,hh,gj⟩
 obtain⟨cur,hh,gj⟩:=M3
 exact⟨_,z0g (P:=P) w t ty ht hv g (n*3) c (fun j hj=>by
  rw[Blk.cell (show Blk w g 48 cur from hh),abo o_];rfl) (fun j hj=>Blk.frozen (show Blk w g 48 cur from hh) _),
  z72 hown hn (by simp;omega),World.os_setCells _ _ _ _,jG _ _ _ _,World.output_setCells _ _ _ _,by rw[yU];exact aaa _,fun i hi gr=>World.heap_setCells_other _ _ _ _ hi (fun e=>gr (by rw[e]))⟩
theorem z4b (base g cap:Nat) (l:List Dp) (k:Nat) (w:World) (ho:zk base w (.slice (some ⟨g,0,none⟩) l.length cap) l) (hk:k<l.length) (gy:base<=w.heap.size):
  Calls Tryz.prog 194 #[.slice (some ⟨g,0,none⟩) l.length cap,.int .i64 k,.int .i64 ((k:Int)+1)] w fun e w'=>e= .returned (.slice (some ⟨g,0,none⟩) (l.length -1) cap)/\zk base w' (.slice (some ⟨g,0,none⟩) (l.length -1) cap) (l.take k++l.drop (k+1))/\Below base w w':=by
 obtain⟨j0,hj,jz0,jz1,jz2⟩:=info_parts vB
 obtain⟨mI,bP,Co⟩:base<=g/\l.length<=cap/\cap<=maxLen:=by
  rcases ho.2 with ⟨e,_⟩|⟨g',cap',cur,e,hb,hh,cO,Co,gj,Fy⟩
  ·cases e
  ·cases e;exact⟨hb,cO,Co⟩
 have HO:=h_ ho;have hL:(l.take k++l.drop (k+1)).length =l.length -1:=by simp;omega
 unfold maxLen at Co
 go_enter Tryz.func194,Tryz.ntmps194
 have c1:(k:Int)<=((cap:Nat):Int):=o_
 have c2:(0:Int)<=(k:Int):=o_
 have c3:(k:Int)+1<=(l.length:Int):=o_
 have c4:(l.length:Int)<=((cap:Nat):Int):=o_
 have c1':(k:Int)<=(k:Int)+1:=o_
 have c5:(0:Int)<=(k:Int)+1:=o_
 have c6:((k:Int)+1).toNat =k+1:=o_
 have c11:¬(k:Int)=(k:Int)+1:=o_
 go_wp2_with fail
 by_cases fK:cap=k+1
 ·have c12:l.length=k+1:=o_
  have hcut:zk base w.drew (.slice (some ⟨g,0,none⟩) k (k+1)) (l.take k++l.drop (k+1)):=by
   have h1:=z3x (g:=g) (cap:=cap) (w:=w.drew) (k:=k) (show zk base w.drew _ l from HO.out) hk;have h2:(l.drop (k+1)).flatMap Dp.cs=[]:=by rw[List.drop_of_length_le o_];rfl
   rw[h2,show l.length -1=k by omega,fK] at h1;exact h1
  obtain⟨w4,GC,hown,fY⟩:=z0r (ty:=0) (c:=1) Tryz.underlying32 z3J (by rw[hL];omega) (show k<k+1 by omega) hcut;have Hp:Below base w w4:=(Below.drew ((aaj _ _).mono gy)).grown fY (by simpa using gy) (fun b e=>by cases e;omega);have hE:l.length -1=k:=o_
  have HH:=h_ (show zk base w4 (.slice (some ⟨g,0,none⟩) (l.length -1) cap) (l.take k++l.drop (k+1))/\Below base w w4 from⟨by rw[hE,fK];exact hown,Hp⟩)
  go_still_tail 6,k_
  go_wp2;go_ret
  exact⟨by rw[hE,fK];rfl,HH.out⟩
 ·have hm:l.length -(l.length -1)=1:=o_
  have d1:((l.length -1:Nat):Int)<=(l.length:Int):=o_
  have d2:(0:Int)<=((l.length -1:Nat):Int):=o_
  have d3:¬cap=l.length -1:=o_
  go_still_tail 6,k_
  go_wp2_with (at_builtin;refine Ja (c2:=cap -(k+1)) rfl _ _ _ rfl base j0 Tryz.underlying32 hj jz1 g cap l k rfl (by rw[aaq fK];rfl) (show zk base w.drew (.slice (some ⟨g,0,none⟩) l.length cap) l from HO.out) hk ?_)
  intro w3 hcut fY;have Hc:Below base w w3:=(Below.drew ((aaj _ _).mono gy)).grown fY (by simpa using gy) (fun b e=>by cases e;omega);obtain⟨w4,hrun4,hown,hgr4⟩:=z0r (ty:=0) (c:=cap -(l.length -1)) Tryz.underlying32 z3J (by rw[hL]) (show l.length -1<cap by omega) hcut;have Hp:Below base w w4:=Hc.grown hgr4 (aai gy Hc.size) (fun b e=>by cases e;omega);have HH:=h_ (And.intro hown Hp);go_wp2;go_ret
  exact⟨rfl,HH.out⟩
theorem z3T (A:Option Addr) (c:Nat) (x:Int) (w:World):
  CB_ 143 #[.slice A 0 c,.int .i64 x] w (.int .i64 (-1)):=by
 go_enter Tryz.func143,Tryz.ntmps143
 go_wp2_with fail
 go_at_call 205
 refine Calls.mono (R:=fun e w'=>e= .returned (.int .i64 (-1))/\Below w.heap.size w w') ?_ ?_
 ·go_enter Tryz.func205,Tryz.ntmps205
  go_wp2
  go_loopw [8] (fun y wr=>y= .int .i64 0/\Below w.heap.size w wr) (fun y _=>0)
  case atStart=>exact⟨rfl,by exact bel_⟩
  case round=>
   obtain⟨rfl,Hb⟩:=hrel;go_wp2;go_ret
   exact⟨rfl,Hb⟩
 rintro e w2 ⟨rfl,He⟩;go_wp2;go_ret
 exact⟨rfl,He⟩
theorem z3U (v:Value) (l:List Dp) (x:Int) (w:World) (h:RDp w v l):
  CB_ 143 #[v,.int .i64 x] w (.int .i64 (plF l x l.length 0)):=by
 obtain⟨A,c,rfl,hc,hm,Gy⟩:=h.at_
 by_cases h0:0<l.length
 ·obtain⟨b,off,rfl,hd⟩:=Gy h0
  exact QD b off _ c l x _ w hd hm rfl
 ·have hz:l.length=0:=o_
  rw[hz];exact z3T A c x w
def tkI (l:List Dp) (x:Int):Int:=plF l x l.length 0
def tkB (l:List Dp) (x:Int):Bool:= !(decide (tkI l x<0))&&qm l
def tkL (l:List Dp) (x:Int):List Dp:=if tkB l x then l.take (tkI l x).toNat ++l.drop ((tkI l x).toNat +1) else l
def VX (l:List Dp) (b:Bool) (w:World) (e:Ending) (w':World):Prop:=∃v,e= .returned (.tuple #[v,.bool b])/\zk w.heap.size w' v l/\Below w.heap.size w w'
theorem z7a (v:Value) (l:List Dp) (x:Int) (w:World) (h:RDp w v l) (hle:l.length<=1048576):
  Calls Tryz.prog 116 #[v,.int .i64 x] w (VX (tkL l x) (tkB l x) w):=by
 have HR:=h_ h;have HT:Hid (plF l x l.length 0=tkI l x):=h_ rfl;have HB:Hid (tkB l x=(!(decide (tkI l x<0))&&qm l)):=h_ rfl;have HL:Hid (tkL l x=if tkB l x then l.take (tkI l x).toNat ++l.drop ((tkI l x).toNat +1) else l):=h_ rfl
 have F5:tkI l x<l.length:=by
  rcases Qa l x l.length 0 with ⟨i,h1,_,h3,_⟩|⟨h1,_⟩
  ·unfold tkI;rw[h1];omega
  ·unfold tkI;rw[h1];omega
 go_enter Tryz.func116,Tryz.ntmps116
 go_wp2_with fail
 refine(yj _ l _ HR.out hle).mono ?_
 rintro e w1 ⟨v1,rfl,Hj,h9⟩;have HO:=h_ Hj
 go_wp2_with fail
 refine(z3U _ l x _ (HR.out.below h9)).mono ?_
 rintro e w2 ⟨rfl,He⟩;rw[HT.out];have HR2:=h_ ((HR.out.below h9).below He);have Cl:=h_ (HO.out.kept He);have Ha:=h9.trans (He.mono h9.size);generalize tkI l x=K at*
 by_cases hK:K<0
 ·go_wp2
  exact bodyPost_ret (v:= .tuple #[v1,.bool false]) (by simp[results,Tryz.results116,go_sem]) rfl ⟨v1,by rw[HB.out];simp[hK],by rw[HL.out,HB.out];simpa[hK] using Cl.out,Ha⟩
 ·go_wp2_with fail
  refine(Qs _ l _ HR2.out).mono ?_
  rintro e w3 ⟨rfl,Hf⟩;have bQ:=h_ (Cl.out.kept Hf);have Hc:=Ha.trans (Hf.mono Ha.size)
  cases hd:qm l
  ·go_wp2
   exact bodyPost_ret (v:= .tuple #[v1,.bool false]) (by simp[results,Tryz.results116,go_sem]) rfl ⟨v1,by rw[HB.out];simp[hd],by rw[HL.out,HB.out];simpa[hd] using bQ.out,Hc⟩
  ·obtain⟨g,cap,rfl⟩:∃g cap,v1= .slice (some ⟨g,0,none⟩) l.length cap:=by
    rcases bQ.out.2 with ⟨e,h0⟩|⟨g',cap',cur,e,_⟩
    ·have h0':l.length=0:=h0
     omega
    ·exact⟨_,_,e⟩
   obtain⟨k,rfl⟩:∃k:Nat,K=k:=⟨K.toNat,by omega⟩;have FY:IntKind.i64.wrap ((k:Int)+1)=(k:Int)+1:=aaQ _ o_
   go_wp2_with fail
   refine(z4b w.heap.size g cap l k _ bQ.out o_ Hc.size).mono ?_
   rintro e w4 ⟨rfl,gF,Hv⟩;have F3:=h_ gF;have Hp:=Hc.trans Hv;go_wp2
   exact bodyPost_ret (v:= .tuple #[.slice (some ⟨g,0,none⟩) (l.length -1) cap,.bool true]) (by simp[results,Tryz.results116,go_sem]) rfl ⟨.slice (some ⟨g,0,none⟩) (l.length -1) cap,by rw[HB.out];simp[hd],by
    have:=F3.out;rw[HL.out,HB.out]
    simpa[hd] using this,Hp⟩
def jF (l:List Dp) (x:Int):Nat->List Dp
 |0=> []
 |k+1=>if (dpI l k).k =x then jF l x k else jF l x k++[dpI l k]
theorem z0P (l:List Dp) (x:Int):∀k,(jF l x k).length <=k
 |0=>aaa _
 |k+1=>by
  have:=z0P l x k;unfold jF
  split
  ·omega
  ·simp;omega
theorem Zj {l:List Dp} {x:Int}:∀k,k<=l.length->(∀j,j<k->¬(dpI l j).k =x)->jF l x k=l.take k
 |0,_,_=>by simp[jF]
 |k+1,hk,h=>by
  have hd:dpI l k=l[k]:=by simp[dpI,List.getD,show k<l.length by omega]
  unfold jF;rw[aaq (h k o_),Zj k o_ (fun j hj=>h j o_),hd,aax (show k<l.length by omega)]
theorem z12 {l:List Dp} {x:Int} {i:Nat} (hi:(dpI l i).k =x):∀k,i<k->k<=l.length->(∀j,j<k->j≠i->¬(dpI l j).k =x)->jF l x k=l.take i++(l.drop (i+1)).take (k -(i+1))
 |0,h,_,_=>absurd h o_
 |k+1,U2,hk,h=>by
  have hd:dpI l k=l[k]:=by simp[dpI,List.getD,show k<l.length by omega]
  unfold jF
  by_cases he:k=i
  ·subst he
   rw[aao hi,Zj k o_ (fun j hj=>h j o_ o_),aae];simp
  ·rw[aaq (h k o_ he),z12 hi k o_ o_ (fun j hj FU=>h j o_ FU),aay,hd]
   congr 1
   have hl:k -(i+1)<(l.drop (i+1)).length :=by simp;omega
   have e1:(l.drop (i+1))[k -(i+1)]=l[k]:=by
    rw[List.getElem_drop]
    congr 1
    omega
   rw[show k+1 -(i+1)=k -(i+1)+1 by omega,aax hl,e1]
theorem V1 {w:World} {ops:Array Oper} {rest:List Oper} {o:Oper} {a:Act} {Q:Exit->Act->World->Prop} (FH:o.guard=none) (s x:Operand)
  (ho:o.op= .call { callee:= .builtin .append,args:= #[s,x],argTypes:= #[32,32] })
  (base:Nat) (v:Value) (ds:List Dp) (d:Dp) (hs:a.eval s=v) (g:Nat) (hx:a.eval x= .slice (some ⟨g,0,none⟩) 1 1) (hg:w.cell? ⟨g,0,none⟩=some (.int .i64 d.k)/\w.cell? ⟨g,1,none⟩=some (.int .i64 d.a)/\w.cell? ⟨g,2,none⟩=some (.int .i64 d.b))
  (hown:zk base w v ds) (Hi:ds.length<=1048576) (H9:base<=w.heap.size)
  (h:∀v' w',zk base w' v' (ds++[d])->w.grownBy w' v.ownBlock->(v'.ownBlock=v.ownBlock∨v'.ownBlock=some w.heap.size)->wpList Tryz.prog ops Q rest (a.put o.dst v') w'):wpList Tryz.prog ops Q (o::rest) a w:=by
 obtain⟨i,hi,hz,H7,gG⟩:=info_parts vB
 exact wpList_append_own_at w FH s x 32 ho base 48 i (.agg #[.int .i64 0,.int .i64 0,.int .i64 0]) 3 24 Tryz.underlying32 hi hz H7 gG rfl (by decide) v ds.length _ hs hown ⟨g,0,none⟩ 1 1 d.cs hx rfl
  (fun j y hj=>by
   match j,hj with
   |0,hj=>cases hj;exact hg.1
   |1,hj=>cases hj;exact hg.2.1
   |2,hj=>cases hj;exact hg.2.2
   |j+3,hj=>simp[Dp.cs] at hj)
  (by intro y hy;simp[Dp.cs] at hy;rcases hy with rfl|rfl|rfl<;>rfl) (by unfold maxLen;omega) o_ H9 fun v' w' e1 e2 _ e3=>h v' w' (by
   have e4:(ds++[d]).flatMap Dp.cs=ds.flatMap Dp.cs++d.cs:=by simp
   unfold zk;rw[e4,show(ds++[d]).length =ds.length+1 by simp];exact e1) e2 e3
noncomputable def sTkB (l:List Dp) (x:Int):Bool:=qm l&& !(decide ((jF l x l.length).length =l.length))
noncomputable def sTkL (l:List Dp) (x:Int):List Dp:=if sTkB l x then jF l x l.length else l
theorem z75 {l:List Dp} {x:Int} {k:Nat} (h:(dpI l k).k =x):jF l x (k+1)=jF l x k:=by simp only[jF];rw[aao h]
theorem z9f {l:List Dp} {x:Int} {k:Nat} (h:¬(dpI l k).k =x):jF l x (k+1)=jF l x k++[dpI l k]:=by simp only[jF];rw[aaq h]
theorem z4P (v:Value) (l:List Dp) (x:Int) (w:World) (h:RDp w v l) (hle:l.length<=1048576):
  Calls Tryz.prog 141 #[v,.int .i64 x] w (VX (sTkL l x) (sTkB l x) w):=by
 obtain⟨A,c,rfl,hc,hm,Gy⟩:=h.at_;unfold maxLen at hm;obtain⟨i0,hi,iz0,iz1,iz2⟩:=info_parts vB;have HR:=h_ h;have Ft:=h_ Gy;have HY:=h_ (fun k h=>z75 (l:=l) (x:=x) (k:=k) h);have BM:=h_ (fun k h=>z9f (l:=l) (x:=x) (k:=k) h);have HKL:=h_ (z0P l x);have HB:Hid (sTkB l x=(qm l&& !(decide ((jF l x l.length).length =l.length)))):=h_ rfl;have HL:Hid (sTkL l x=if sTkB l x then jF l x l.length else l):=h_ rfl;have wh:Hid (jF l x 0=[]):=h_ rfl
 go_enter Tryz.func141,Tryz.ntmps141
 go_wp2
 go_loopw [6,7] (fun u y wr=>∃k:Nat,k<=l.length/\y= .int .i64 k/\zk w.heap.size wr u (jF l x k)/\Below w.heap.size w wr) (fun _ y _=>l.length -(intOf y).toNat)
 case atStart=>exact⟨0,aab _,rfl,by rw[wh.out];exact zG (aaa _) rfl,by exact bel_⟩
 case round=>
  obtain⟨k,hk,rfl,ho,Hb⟩:=hrel
  by_cases Hd:k<l.length
  ·have Hr:(k:Int)<(l.length:Int):=o_
   have ik1:(0:Int)<=(k:Int):=o_
   obtain⟨b,off,rfl,mD⟩:=Ft.out o_;have hd:=mD.below Hb;obtain⟨q0,q1,q2⟩:=hd.2 k Hd;have MT:=h_ (fun h=>HY.out k h);have F9:=h_ (fun h=>BM.out k h);have bj:=HKL.out k;generalize dpI l k=D at*
   by_cases he:D.k=x
   ·have HE:=h_ (MT.out he)
    go_wp2;go_roundw
    case rel=>exact⟨k+1,by omega,by go_num,by rw[HE.out];exact ho,Hb⟩
    case measure=>simp[intOf];omega
   ·have HE:=h_ (F9.out he)
    have e1:(D.k==x)=false:=beq_eq_false_iff_ne.2 he;generalize jF l x k=G at*
    go_wp2_with (at_builtin;refine V1 rfl _ _ rfl w.heap.size _ G D rfl wr.heap.size rfl ⟨(Blk.newAt (cs:= #[.int .i64 D.k,.int .i64 D.a,.int .i64 D.b]) rfl).cell 0,(Blk.newAt (cs:= #[.int .i64 D.k,.int .i64 D.a,.int .i64 D.b]) rfl).cell 1,(Blk.newAt (cs:= #[.int .i64 D.k,.int .i64 D.a,.int .i64 D.b]) rfl).cell 2⟩ (World.ownsRow.alloc ho _) o_ (by have:=Hb.size;simp;omega) ?_)
    intro v2 w2 Hm Gr gS;have gz:Below w.heap.size w w2:=(Hb.alloc Hb.size _).grown Gr (by have:=Hb.size;simp;omega) (fun q hq=>by have:=(World.ownsRow.lt ho q hq).1;omega);go_wp2;go_roundw
    case rel=>exact⟨k+1,by omega,by go_num,by rw[HE.out];exact Hm,gz⟩
    case measure=>simp[intOf];omega
  ·have Hw:k=l.length:=o_
   subst Hw;obtain⟨Ao,co,rfl⟩:=zk.form ho;have HO:=h_ ho
   go_wp2_with fail
   refine(Qq _ l _ (HR.out.below Hb)).mono ?_
   rintro e w3 ⟨rfl,Hf⟩;have bQ:=h_ (HO.out.kept Hf);have Hc:=Hb.trans (Hf.mono Hb.size);generalize jF l x l.length=G at*
   cases hd:qm l
   ·have gr:True:=trivial
    go_wp2_with (at_builtin;refine zM rfl _ _ _ rfl w.heap.size 48 i0 (.agg #[.int .i64 0,.int .i64 0,.int .i64 0]) 3 24 Tryz.underlying32 hi iz0 iz1 iz2 rfl (by decide) (.slice (some ⟨w3.heap.size,0,none⟩) 0 0) _ 0 l.length [] (l.flatMap Dp.cs) rfl rfl (zG Hc.size rfl) (RDp.below (HR.out.below Hc) ((aaj _ _).alloc (aaa _) _)) (jD l) o_ (by decide) (by have:=Hc.size;simp;omega) ?_)
    intro A2 c2 w4 gF GA _;have Hp:Below w.heap.size w w4:=(Hc.alloc Hc.size _).grown GA (by have:=Hc.size;simp;omega) (fun q hq=>by cases hq;exact Hc.size);have F3:=h_ (show zk w.heap.size w4 (.slice A2 l.length c2) l by simpa[zk] using gF);go_wp2;exact bodyPost_ret (v:= .tuple #[.slice A2 l.length c2,.bool false]) (by simp[results,Tryz.results141,go_sem]) rfl ⟨.slice A2 l.length c2,by rw[HB.out];simp[hd,gr],by rw[HL.out,HB.out];simpa[hd,gr] using F3.out,Hp⟩
   ·by_cases Hi:G.length=l.length
    ·have gr:G.length=l.length:=Hi
     go_wp2_with (at_builtin;refine zM rfl _ _ _ rfl w.heap.size 48 i0 (.agg #[.int .i64 0,.int .i64 0,.int .i64 0]) 3 24 Tryz.underlying32 hi iz0 iz1 iz2 rfl (by decide) (.slice (some ⟨w3.heap.size,0,none⟩) 0 0) _ 0 l.length [] (l.flatMap Dp.cs) rfl rfl (zG Hc.size rfl) (RDp.below (HR.out.below Hc) ((aaj _ _).alloc (aaa _) _)) (jD l) o_ (by decide) (by have:=Hc.size;simp;omega) ?_)
     intro A2 c2 w4 gF GA _;have Hp:Below w.heap.size w w4:=(Hc.alloc Hc.size _).grown GA (by have:=Hc.size;simp;omega) (fun q hq=>by cases hq;exact Hc.size);have F3:=h_ (show zk w.heap.size w4 (.slice A2 l.length c2) l by simpa[zk] using gF);go_wp2;exact bodyPost_ret (v:= .tuple #[.slice A2 l.length c2,.bool false]) (by simp[results,Tryz.results141,go_sem]) rfl ⟨.slice A2 l.length c2,by rw[HB.out];simp[hd,gr],by rw[HL.out,HB.out];simpa[hd,gr] using F3.out,Hp⟩
    ·have gr:=Hi
     have e1:((G.length:Int)==(l.length:Int))=false:=by rw[beq_eq_false_iff_ne];omega
     go_wp2;exact bodyPost_ret (v:= .tuple #[.slice Ao G.length co,.bool true]) (by simp[results,Tryz.results141,go_sem]) rfl ⟨.slice Ao G.length co,by rw[HB.out];simp[hd,gr],by rw[HL.out,HB.out];simpa[hd,gr] using bQ.out,Hc⟩
theorem z5h {l:List Dp} (h:qm l=true) {i j:Nat} (hj:j<l.length) (hi:i<l.length) (gr:j≠i):¬(dpI l j).k =(dpI l i).k :=by
 have h1:=(yt.1 h).2
 have key:∀a b,a<b->b<l.length->¬(dpI l a).k =(dpI l b).k :=by
  intro a b uo hb hc;have h2:=h1 b hb;unfold depB at h2;simp only[aaH] at h2
  have h3:=Qc (l:=l) (x:=(dpI l b).k) uo hc
  simp_all
 rcases Nat.lt_or_gt_of_ne gr with g|g
 ·exact key j i g hi
 ·exact fun hc=>key i j g hj hc.symm
theorem z6A (l:List Dp) (x:Int):sTkB l x=tkB l x/\sTkL l x=tkL l x:=by
 unfold sTkL tkL sTkB tkB tkI
 cases hd:qm l
 ·simp
 ·rcases Qa l x l.length 0 with ⟨i,h1,_,h3,h4,h5⟩|⟨h1,h2⟩
  ·have hk:jF l x l.length=l.take i++l.drop (i+1):=by
    rw[z12 h4 l.length o_ (aaa _) (fun j hj FU=>by rw[<-h4];exact z5h hd hj o_ FU)];rw[aaL (show(l.drop (i+1)).length <=l.length -(i+1) by simp)]
   have hl:¬(l.take i++l.drop (i+1)).length =l.length:=by simp;omega
   rw[h1,hk];have hn:¬((i:Int)<0):=o_
   simp only[hl,hn,decide_false,Bool.not_false,Bool.and_self,if_true,aa6,and_self]
  ·have hk:jF l x l.length=l:=by
    rw[Zj l.length (aaa _) (fun j hj=>h2 j o_ o_),aaB]
   rw[h1,hk];simp
theorem z7D (v:Value) (l:List Dp) (x:Int) (w:World) (h:RDp w v l) (hle:l.length<=1048576):
  Calls Tryz.prog 141 #[v,.int .i64 x] w (VX (tkL l x) (tkB l x) w):=by
 obtain⟨h1,h2⟩:=z6A l x;rw[<-h1,<-h2];exact z4P v l x w h hle
noncomputable def yp (S:St) (x:Int):Bool:=ze S&&tkB S.ds x
noncomputable def yC (S:St) (x:Int):St:=if yp S x=true then⟨S.D,S.cs,tkL S.ds x,S.fund⟩ else S
theorem zb2 {l:List Dp} {x:Int} (h:tkB l x=false):tkL l x=l:=by unfold tkL;rw[h];rfl
theorem XC {S:St} {x:Int} (h:ze S=false∨tkB S.ds x=false):yC S x=S/\yp S x=false:=by
 have hb:yp S x=false:=by
  unfold yp
  rcases h with h|h<;>simp[h]
 exact⟨by unfold yC;rw[hb];rfl,hb⟩
theorem z0U {S:St} {x:Int} (h1:ze S=true):yC S x=⟨S.D,S.cs,tkL S.ds x,S.fund⟩/\yp S x=tkB S.ds x:=by
 have hb:yp S x=tkB S.ds x:=by unfold yp;rw[h1];rfl
 refine⟨?_,hb⟩
 unfold yC;rw[hb]
 cases h:tkB S.ds x
 ·rw[zb2 h];rfl
 ·rfl
theorem Vb (l:List Dp) (x:Int):(tkL l x).length <=l.length:=by
 unfold tkL
 split
 ·simp;omega
 ·exact aaa _
theorem xQ (S:St) (x:Int) (h:StLe S):yi (yC S x)<=30000000:=by
 have hc:=h.cnt;unfold yC
 split
 ·have:=Vb S.ds x
  unfold yi at hc⊢
  show cntD S.D+S.cs.length+3*(tkL S.ds x).length <=_
  omega
 ·exact hc
section
variable {w wr wr':World} {v0 v1 v2 v3 v4 v5 v6 a b c d e f g:Value} {m:Int} {Z:Nat} {S:St} {fs:List SF}
theorem OutSS.newDs (h:OutSS w v0 v1 v2 v3 v4 v5 v6 m Z a b c d e f g S fs wr) (hb:Below wr.heap.size wr wr') {v:Value} {l:List Dp} (ho:zk wr.heap.size wr' v l):
  OutSS w v0 v1 v2 v3 v4 v5 v6 m Z a b c d e f v ⟨S.D,S.cs,l,S.fund⟩ fs (wr'.setCell ⟨Z,6,none⟩ v):=by
 have h1:=h.below hb;have br:∀k,v.ownBlock=some k->wr.heap.size<=k:=fun k hk=>(World.ownsRow.lt ho k hk).1
 have hup:∀k,qv a b c d e f g fs k->k<wr.heap.size:=fun k hk=>(h.own.lt k hk).2
 have Ga:=h.Z_.lt
 have rt:¬qv a b c d e f v fs Z:=by
  rintro(hk|hk|hk)
  ·exact h.far (.inl hk)
  ·exact h.far (.inr (.inl hk))
  ·have:=br _ hk;omega
 have hO:OwnSt (w.heap.size+1+1) wr' a b c d e f v ⟨S.D,S.cs,l,S.fund⟩ fs:=
  ⟨h1.own.dr,h1.own.cs,World.ownsRow.mono ho (by have:=h.lt;omega),h1.own.d_c,fun k hk Gj=>by have:=br k Gj;have:=hup k (.inl hk);omega,fun k hk Gj=>by have:=br k Gj;have:=hup k (.inr (.inl hk));omega⟩
 have Hd:=h.lt;exact⟨hO.setFar (p:=⟨Z,6,none⟩) rt v,h1.X.far (p:=⟨Z,6,none⟩) (show w.heap.size≠Z by omega) v,h1.R.far (p:=⟨Z,6,none⟩) (show w.heap.size+1≠Z by omega) v,h1.Z_.set_ 6 v,h1.lt,rt,h1.blw.setCell (p:=⟨Z,6,none⟩) (show w.heap.size<=Z by omega) v⟩
end
theorem z0a (v0 v1 v2 v3 v4 v5 v6:Value) (S:St) (x:Int) (w:World) (h:RSt w v0 v1 v2 v3 v4 v5 v6 S) (hle:StLe S):
  Calls Tryz.prog 42 #[.agg #[v0,v1,v2,v3,v4,v5,v6,.int .i64 S.fund],.int .i64 x] w (yk (yC S x) (yp S x) w):=by
 obtain⟨r,hr⟩:∃r,ze S=r:=⟨_,rfl⟩;have HR:=h_ hr;have gi:=h_ hle;obtain⟨B6,d6,ev6,CE,cJ,Gy⟩:=h.ds.at_;subst ev6;unfold maxLen at cJ;obtain⟨E,hE⟩:∃E,yC S x=E:=⟨_,rfl⟩;obtain⟨bb,gc⟩:∃bb,yp S x=bb:=⟨_,rfl⟩;rw[hE,gc];have HE:=h_ hE;have gm:=h_ gc;have HH:=h_ h
 go_enter Tryz.func42,Tryz.ntmps42
 go_wp2_with fail
 refine(qw _ _ _ _ _ _ _ S _ (HH.out.below bel_) gi.out).mono ?_
 rintro e w1 ⟨A0,a0,A1,a1,A2,a2,A3,a3,A4,a4,A5,a5,A6,a6,fs,rfl,Hj,h9⟩;have gh:Blk w1 w.heap.size 34 #[v0,v1,v2,v3,v4,v5,.slice B6 S.ds.length d6,.int .i64 S.fund]:=Blk.below ((Blk.newAt rfl).alloc _) h9 sz_;have gu:Blk w1 (w.heap.size+1) 34 z8_:=Blk.below (Blk.newAt (by simp)) h9 sz_;have h8:Below w.heap.size w w1:=bel_
 have Gi:OwnSt (w.heap.size+1+1) w1 (.slice A0 S.D.fn.length a0) (.slice A1 S.D.fl.length a1) (.slice A2 S.D.nn.length a2) (.slice A3 S.D.nl.length a3) (.slice A4 S.D.ss.length a4) (.slice A5 S.cs.length a5) (.slice A6 S.ds.length a6) S fs:=by simpa using Hj
 have gB:=h_ (OutSS.start Gi (aaa _) gh gu h8);obtain⟨x_0,x_1,x_2,x_3,x_4,x_5,x_6,x_7⟩:=gh.c8;have fi:=gh.lt
 go_wp2_with fail
 obtain⟨w2,gS⟩:∃w2,w2=w1.alloc (.cells #[.slice A0 S.D.fn.length a0,.slice A1 S.D.fl.length a1,.slice A2 S.D.nn.length a2,.slice A3 S.D.nl.length a3,.slice A4 S.D.ss.length a4,.slice A5 S.cs.length a5,.slice A6 S.ds.length a6,.int .i64 S.fund] 34):=⟨_,rfl⟩;rw[<-gS] at gB⊢;generalize w1.heap.size=Z at*;refine(qM _ _ _ _ _ _ _ S r _ (HH.out.below gB.out.blw) HR).mono ?_
 rintro e w3 ⟨rfl,Hf⟩;have gd:=h_ (gB.out.below Hf);have gU:=gd.out.X;obtain⟨x_0,x_1,x_2,x_3,x_4,x_5,x_6,x_7⟩:=gU.c8
 cases r
 ·obtain⟨u1,u2⟩:=XC (S:=S) (x:=x) (.inl hr)
  have hu:S=E:=by rw[<-HE.out];exact u1.symm
  have hv:false=bb:=by rw[<-gm.out];exact u2.symm
  subst hu;subst hv;have HF:=gd;obtain⟨_,_,hR,hZ,Ga,_,_⟩:=HF.out;obtain⟨z_0,z_1,z_2,z_3,z_4,z_5,z_6,z_7⟩:=hZ.c8;obtain⟨r_0,r_1,r_2,r_3,r_4,r_5,r_6,r_7,r_f0,r_f1,r_f2,r_f3,r_f4,r_f5,r_f6,r_f7⟩:=hR.b8;have Hl:=hR.lt;have Hy:=h_ (HF.out.fin);go_wp2;exact bodyPost_ret (v:= .tuple #[.agg (s8_ A0 A1 A2 A3 A4 A5 A6 a0 a1 a2 a3 a4 a5 a6 S),.bool false]) (by simp[results,Tryz.results42,go_sem,r_0,r_1,r_2,r_3,r_4,r_5,r_6,r_7,Hl]) rfl ⟨_,_,_,_,_,_,_,_,_,_,_,_,_,_,fs,rfl,(Hy.out _ _ _ _ _ _ _ _).1,(Hy.out _ _ _ _ _ _ _ _).2⟩
 ·obtain⟨l',Gc⟩:∃l,tkL S.ds x=l:=⟨_,rfl⟩
  obtain⟨b',gw⟩:∃b,tkB S.ds x=b:=⟨_,rfl⟩;have BC:=h_ Gc;have fR:=h_ gw;have HDS:=h_ (HH.out.ds.below gd.out.blw)
  go_wp2_with fail
  refine(z7a _ S.ds x _ HDS.out gi.out.ds).mono ?_
  rw[Gc,gw];rintro e w4 ⟨vt,rfl,gF,Hv⟩;obtain⟨T6,t6,rfl⟩:=zk.form gF;have HF:=h_ (OutSS.newDs gd.out Hv gF);have gZ:=h_ (gd.out.below Hv);obtain⟨u1,u2⟩:=z0U (S:=S) (x:=x) hr;rw[BC.out] at u1;rw[fR.out] at u2;have hu:(⟨S.D,S.cs,l',S.fund⟩:St)=E:=by rw[<-HE.out];exact u1.symm
  have hv:b'=bb:=by rw[<-gm.out];exact u2.symm
  subst hu;subst hv;obtain⟨_,_,hR,hZ,Ga,_,_⟩:=gZ.out;obtain⟨z_0,z_1,z_2,z_3,z_4,z_5,z_6,z_7,z_f0,z_f1,z_f2,z_f3,z_f4,z_f5,z_f6,z_f7⟩:=hZ.b8;obtain⟨r_0,r_1,r_2,r_3,r_4,r_5,r_6,r_7,r_f0,r_f1,r_f2,r_f3,r_f4,r_f5,r_f6,r_f7⟩:=hR.b8;have Hl:=hR.lt;have Fr:=hZ.lt;have Hy:=h_ (HF.out.fin);have FK:¬Z=w.heap.size+1:=o_
  have Gv:¬w.heap.size+1=Z:=o_
  go_wp2;exact bodyPost_ret (v:= .tuple #[.agg #[.slice A0 S.D.fn.length a0,.slice A1 S.D.fl.length a1,.slice A2 S.D.nn.length a2,.slice A3 S.D.nl.length a3,.slice A4 S.D.ss.length a4,.slice A5 S.cs.length a5,.slice T6 l'.length t6,.int .i64 S.fund],.bool b']) (by simp[results,Tryz.results42,go_sem,r_0,r_1,r_2,r_3,r_4,r_5,r_6,r_7,z_0,z_1,z_2,z_3,z_4,z_5,z_6,z_7,Hl,Fr,FK,Gv]) rfl ⟨_,_,_,_,_,_,_,_,_,_,_,_,_,_,fs,rfl,(Hy.out _ _ _ _ _ _ _ _).1,(Hy.out _ _ _ _ _ _ _ _).2⟩
theorem z0l (v0 v1 v2 v3 v4 v5 v6:Value) (S:St) (x:Int) (w:World) (h:RSt w v0 v1 v2 v3 v4 v5 v6 S) (hle:StLe S):
  Calls Tryz.prog 74 #[.agg #[v0,v1,v2,v3,v4,v5,v6,.int .i64 S.fund],.int .i64 x] w (yk (yC S x) (yp S x) w):=by
 obtain⟨r,hr⟩:∃r,ze S=r:=⟨_,rfl⟩;have HR:=h_ hr;have gi:=h_ hle;obtain⟨B6,d6,ev6,CE,cJ,Gy⟩:=h.ds.at_;subst ev6;unfold maxLen at cJ;obtain⟨E,hE⟩:∃E,yC S x=E:=⟨_,rfl⟩;obtain⟨bb,gc⟩:∃bb,yp S x=bb:=⟨_,rfl⟩;rw[hE,gc];have HE:=h_ hE;have gm:=h_ gc;have HH:=h_ h
 go_enter Tryz.func74,Tryz.ntmps74
 go_wp2_with fail
 refine(jm _ _ _ _ _ _ _ S _ (HH.out.below bel_) gi.out).mono ?_
 rintro e w1 ⟨A0,a0,A1,a1,A2,a2,A3,a3,A4,a4,A5,a5,A6,a6,fs,rfl,Hj,h9⟩;have gh:Blk w1 w.heap.size 34 #[v0,v1,v2,v3,v4,v5,.slice B6 S.ds.length d6,.int .i64 S.fund]:=Blk.below ((Blk.newAt rfl).alloc _) h9 sz_;have gu:Blk w1 (w.heap.size+1) 34 z8_:=Blk.below (Blk.newAt (by simp)) h9 sz_;have h8:Below w.heap.size w w1:=bel_
 have Gi:OwnSt (w.heap.size+1+1) w1 (.slice A0 S.D.fn.length a0) (.slice A1 S.D.fl.length a1) (.slice A2 S.D.nn.length a2) (.slice A3 S.D.nl.length a3) (.slice A4 S.D.ss.length a4) (.slice A5 S.cs.length a5) (.slice A6 S.ds.length a6) S fs:=by simpa using Hj
 have gB:=h_ (OutSS.start Gi (aaa _) gh gu h8);obtain⟨x_0,x_1,x_2,x_3,x_4,x_5,x_6,x_7⟩:=gh.c8;have fi:=gh.lt
 go_wp2_with fail
 obtain⟨w2,gS⟩:∃w2,w2=w1.alloc (.cells #[.slice A0 S.D.fn.length a0,.slice A1 S.D.fl.length a1,.slice A2 S.D.nn.length a2,.slice A3 S.D.nl.length a3,.slice A4 S.D.ss.length a4,.slice A5 S.cs.length a5,.slice A6 S.ds.length a6,.int .i64 S.fund] 34):=⟨_,rfl⟩;rw[<-gS] at gB⊢;generalize w1.heap.size=Z at*;refine(j8 _ _ _ _ _ _ _ S r _ (HH.out.below gB.out.blw) HR).mono ?_
 rintro e w3 ⟨rfl,Hf⟩;have gd:=h_ (gB.out.below Hf);have gU:=gd.out.X;obtain⟨x_0,x_1,x_2,x_3,x_4,x_5,x_6,x_7⟩:=gU.c8
 cases r
 ·obtain⟨u1,u2⟩:=XC (S:=S) (x:=x) (.inl hr)
  have hu:S=E:=by rw[<-HE.out];exact u1.symm
  have hv:false=bb:=by rw[<-gm.out];exact u2.symm
  subst hu;subst hv;have HF:=gd;obtain⟨_,_,hR,hZ,Ga,_,_⟩:=HF.out;obtain⟨z_0,z_1,z_2,z_3,z_4,z_5,z_6,z_7⟩:=hZ.c8;obtain⟨r_0,r_1,r_2,r_3,r_4,r_5,r_6,r_7,r_f0,r_f1,r_f2,r_f3,r_f4,r_f5,r_f6,r_f7⟩:=hR.b8;have Hl:=hR.lt;have Hy:=h_ (HF.out.fin);go_wp2;exact bodyPost_ret (v:= .tuple #[.agg (s8_ A0 A1 A2 A3 A4 A5 A6 a0 a1 a2 a3 a4 a5 a6 S),.bool false]) (by simp[results,Tryz.results74,go_sem,r_0,r_1,r_2,r_3,r_4,r_5,r_6,r_7,Hl]) rfl ⟨_,_,_,_,_,_,_,_,_,_,_,_,_,_,fs,rfl,(Hy.out _ _ _ _ _ _ _ _).1,(Hy.out _ _ _ _ _ _ _ _).2⟩
 ·obtain⟨l',Gc⟩:∃l,tkL S.ds x=l:=⟨_,rfl⟩
  obtain⟨b',gw⟩:∃b,tkB S.ds x=b:=⟨_,rfl⟩;have BC:=h_ Gc;have fR:=h_ gw;have HDS:=h_ (HH.out.ds.below gd.out.blw)
  go_wp2_with fail
  refine(z7D _ S.ds x _ HDS.out gi.out.ds).mono ?_
  rw[Gc,gw];rintro e w4 ⟨vt,rfl,gF,Hv⟩;obtain⟨T6,t6,rfl⟩:=zk.form gF;have HF:=h_ (OutSS.newDs gd.out Hv gF);have gZ:=h_ (gd.out.below Hv)
  cases b'
  ·clear HF
   obtain⟨u1,u2⟩:=XC (S:=S) (x:=x) (.inr fR.out);have hu:S=E:=by rw[<-HE.out];exact u1.symm
   have hv:false=bb:=by rw[<-gm.out];exact u2.symm
   subst hu;subst hv;have HF:=gZ;obtain⟨_,_,hR,hZ,Ga,_,_⟩:=HF.out;obtain⟨z_0,z_1,z_2,z_3,z_4,z_5,z_6,z_7⟩:=hZ.c8;obtain⟨r_0,r_1,r_2,r_3,r_4,r_5,r_6,r_7,r_f0,r_f1,r_f2,r_f3,r_f4,r_f5,r_f6,r_f7⟩:=hR.b8;have Hl:=hR.lt;have Hy:=h_ (HF.out.fin);go_wp2;exact bodyPost_ret (v:= .tuple #[.agg (s8_ A0 A1 A2 A3 A4 A5 A6 a0 a1 a2 a3 a4 a5 a6 S),.bool false]) (by simp[results,Tryz.results74,go_sem,r_0,r_1,r_2,r_3,r_4,r_5,r_6,r_7,Hl]) rfl ⟨_,_,_,_,_,_,_,_,_,_,_,_,_,_,fs,rfl,(Hy.out _ _ _ _ _ _ _ _).1,(Hy.out _ _ _ _ _ _ _ _).2⟩
  ·obtain⟨u1,u2⟩:=z0U (S:=S) (x:=x) hr
   rw[BC.out] at u1;rw[fR.out] at u2;have hu:(⟨S.D,S.cs,l',S.fund⟩:St)=E:=by rw[<-HE.out];exact u1.symm
   have hv:true=bb:=by rw[<-gm.out];exact u2.symm
   subst hu;subst hv;obtain⟨_,_,hR,hZ,Ga,_,_⟩:=gZ.out;obtain⟨z_0,z_1,z_2,z_3,z_4,z_5,z_6,z_7,z_f0,z_f1,z_f2,z_f3,z_f4,z_f5,z_f6,z_f7⟩:=hZ.b8;obtain⟨r_0,r_1,r_2,r_3,r_4,r_5,r_6,r_7,r_f0,r_f1,r_f2,r_f3,r_f4,r_f5,r_f6,r_f7⟩:=hR.b8;have Hl:=hR.lt;have Fr:=hZ.lt;have Hy:=h_ (HF.out.fin);have FK:¬Z=w.heap.size+1:=o_
   have Gv:¬w.heap.size+1=Z:=o_
   go_wp2;exact bodyPost_ret (v:= .tuple #[.agg #[.slice A0 S.D.fn.length a0,.slice A1 S.D.fl.length a1,.slice A2 S.D.nn.length a2,.slice A3 S.D.nl.length a3,.slice A4 S.D.ss.length a4,.slice A5 S.cs.length a5,.slice T6 l'.length t6,.int .i64 S.fund],.bool true]) (by simp[results,Tryz.results74,go_sem,r_0,r_1,r_2,r_3,r_4,r_5,r_6,r_7,z_0,z_1,z_2,z_3,z_4,z_5,z_6,z_7,Hl,Fr,FK,Gv]) rfl ⟨_,_,_,_,_,_,_,_,_,_,_,_,_,_,fs,rfl,(Hy.out _ _ _ _ _ _ _ _).1,(Hy.out _ _ _ _ _ _ _ _).2⟩
theorem z3A (vn vl:Value) (ns ls:List Pr) (f:Int) (w:World) (hn:RP w vn ns) (hl:RP w vl ls):
  CB_ 152 #[.agg #[vn,vl],.int .i64 f] w (.int .i64 (boxF ns ls f).2.2):=by
 have Hg:Below w.heap.size w (w.alloc (.cells #[vn,vl] 27)):=bel_
 have hb:=XX vn vl ns ls f _ (hn.below Hg) (hl.below Hg);obtain⟨K,hK⟩:∃K,boxF ns ls f=K:=⟨_,rfl⟩;rw[hK] at hb⊢;have HB:=h_ hb;clear hK hb
 go_enter Tryz.func152,Tryz.ntmps152
 go_wp2_with fail
 refine HB.out.mono ?_
 rintro e w1 ⟨rfl,h9⟩;have h8:=Hg.trans (h9.mono Hg.size);have Fv:=h8.size;clear h9;go_wp2;go_ret
 exact⟨rfl,by exact bel_⟩
theorem z7W {ns ls:List Pr} {d e:Nat} (h:(boxF ns ls d).2.2=(boxF ns ls e).2.2):cmpR ns ls d e=(boxF ns ls d).1.1 -(boxF ns ls e).1.1:=by unfold cmpR;rw[aao h]
theorem z6W {ns ls:List Pr} {d e:Nat} (h:¬(boxF ns ls d).2.2=(boxF ns ls e).2.2):cmpR ns ls d e=(boxF ns ls e).2.2 -(boxF ns ls d).2.2:=by unfold cmpR;rw[aaq h]
theorem z6V (gW:Nat) (vn vl:Value) (ns ls:List Pr) (d e:Nat) (w:World) (hW:Blk w gW 27 #[vn,vl]) (hn:RP w vn ns) (hl:RP w vl ls):
  Calls Tryz.prog 151 #[.int .i64 d,.int .i64 e,.pointer (some ⟨gW,0,none⟩)] w fun en w'=>en= .returned (.int .i64 (cmpR ns ls d e))/\Below w.heap.size w w':=by
 have fr:=z6f (ns:=ns) (ls:=ls) (f:=(d:Int));have hbe:=z6f (ns:=ns) (ls:=ls) (f:=(e:Int));obtain⟨⟨d1,d2,d3,d4⟩,d5,d6,d7,d8⟩:=fr;obtain⟨⟨e1,e2,e3,e4⟩,e5,e6,e7,e8⟩:=hbe;have HS:=h_ (fun h=>z7W (ns:=ns) (ls:=ls) (d:=d) (e:=e) h);have HD:=h_ (fun h=>z6W (ns:=ns) (ls:=ls) (d:=d) (e:=e) h);have hTd:=fun (v:World) (h1:RP v vn ns) (h2:RP v vl ls)=>z3A vn vl ns ls d v h1 h2
 have hTe:=fun (v:World) (h1:RP v vn ns) (h2:RP v vl ls)=>z3A vn vl ns ls e v h1 h2
 have hBd:=fun (v:World) (h1:RP v vn ns) (h2:RP v vl ls)=>XX vn vl ns ls d v h1 h2
 have hBe:=fun (v:World) (h1:RP v vn ns) (h2:RP v vl ls)=>XX vn vl ns ls e v h1 h2
 generalize cmpR ns ls d e=R at*;obtain⟨x,hx⟩:∃x,boxF ns ls (d:Int)=x:=⟨_,rfl⟩;obtain⟨y,hy⟩:∃y,boxF ns ls (e:Int)=y:=⟨_,rfl⟩;rw[hx] at d1 d2 d3 d4 d5 d6 d7 d8 HS HD hTd hBd;rw[hy] at e1 e2 e3 e4 e5 e6 e7 e8 HS HD hTe hBe;have HTd:=h_ hTd;have HTe:=h_ hTe;have HBd:=h_ hBd;have HBe:=h_ hBe;obtain⟨a_0,a_1⟩:=hW.c2;have hWl:=hW.lt;clear hx hy hTd hTe hBd hBe
 go_enter Tryz.func151,Tryz.ntmps151
 go_wp2_with fail
 (refine z7 k_ k_ (fun hG=>?_))
 repeat (go_big_quiet_step (first|(go_at_call_of 152 d;exact zy (HTd.out _ (RS.grw _ hn) (RS.grw _ hl)))|(go_at_call_of 152 e;exact zy (HTe.out _ (RS.grw _ hn) (RS.grw _ hl)))))
 refine wpQuiet_nil ?_
 clear hG;rintro w1 ⟨⟨_,h9⟩,rfl⟩;have Ma:=hn.below h9;have BL:=hl.below h9;have gg:=hW.below h9 hWl;have hw1l:=gg.lt;clear a_0 a_1
 by_cases GI:x.2.2=y.2.2
 ·have e9:(x.2.2==y.2.2)=true:=beq_iff_eq.2 GI
  have e10:(x.2.2 != y.2.2)=false:=by rw[bne,e9];rfl
  have HR:=h_ (HS.out GI);clear GI;obtain⟨a_0,a_1⟩:=gg.c2
  go_wp2_with fail
  refine(HBd.out _ Ma BL).mono ?_
  rintro en w2 ⟨rfl,He⟩;have gq:=h9.trans (He.mono h9.size);have gV:=gg.below He hw1l;have hw2l:=gV.lt;have CK:=Ma.below He;have bS:=BL.below He;have Hf:Below w2.heap.size w2 ((w2.alloc (.cells #[.int .i64 x.1.1,.int .i64 x.1.2] 106)).alloc (.cells #[.int .i64 x.2.1,.int .i64 x.2.2] 106)):=bel_
  have M7:=h_ (HBe.out _ (CK.below Hf) (bS.below Hf));have q0:((w2.alloc (.cells #[.int .i64 x.1.1,.int .i64 x.1.2] 106)).alloc (.cells #[.int .i64 x.2.1,.int .i64 x.2.2] 106)).cell? ⟨w2.heap.size,0,none⟩=some (.int .i64 x.1.1):=((Blk.newAt (cs:= #[.int .i64 x.1.1,.int .i64 x.1.2]) rfl).alloc _).cell 0;have GL:((w2.alloc (.cells #[.int .i64 x.1.1,.int .i64 x.1.2] 106)).alloc (.cells #[.int .i64 x.2.1,.int .i64 x.2.2] 106)).heap.size =w2.heap.size+1+1:=by simp
  have CY:=gq.trans (Hf.mono gq.size);obtain⟨b_0,b_1⟩:=gV.c2;clear h9 He gg Hf a_0 a_1 gq
  go_wp2_with fail
  obtain⟨w3,FW⟩:∃u,u=((w2.alloc (.cells #[.int .i64 x.1.1,.int .i64 x.1.2] 106)).alloc (.cells #[.int .i64 x.2.1,.int .i64 x.2.2] 106)):=⟨_,rfl⟩;rw[<-FW] at q0 GL CY M7⊢;clear FW;refine M7.out.mono ?_
  rintro en w4 ⟨rfl,Hv⟩;have q1:=(Hv.cell (p:=⟨w2.heap.size,0,none⟩) (show w2.heap.size<w3.heap.size by omega)).trans q0;have Bg:=Hv.size;have l1:w2.heap.size<w4.heap.size:=o_
  have Uw:=CY.trans (Hv.mono CY.size);have hs14:=Uw.size;clear Hv q0 CY M7 b_0 b_1;go_wp2;go_ret
  exact⟨zb (by rw[HR.out]),by exact bel_⟩
 ·have e9:(x.2.2==y.2.2)=false:=beq_eq_false_iff_ne.2 GI
  have e10:(x.2.2 != y.2.2)=true:=by rw[bne,e9];rfl
  have HR:=h_ (HD.out GI);clear GI;go_wp2;go_ret
  exact⟨zb (by rw[HR.out]),by exact bel_⟩
end Go.Proofs.YtnjcpljhmhdhkaaGreat
