/- part 12 -/
import Derived.Test.YtnjcpljhmhdhkaaGreatTPk11
import Derived.Deep.Upon
set_option linter.unusedSimpArgs false
set_option linter.unusedVariables false
set_option maxRecDepth 100000
set_option maxHeartbeats 8000000
namespace Go.Proofs.YtnjcpljhmhdhkaaGreat
open Go.RowKit
attribute [local go_sem ↓] zu zw zY zZ
noncomputable def hasL (ns ls:List Pr) (k:Int):Bool:=winB ns ls&&inB k 0 ((ls.length:Int) -1)
noncomputable def jI (ns ls:List Pr) (k:Int):List Pr:=if hasL ns ls k then ls.take k.toNat++ls.drop (k.toNat+1) else ls
theorem VP (vn vl:Value) (ns ls:List Pr) (k:Int) (w:World) (hn:RP w vn ns) (hl:RP w vl ls):
  Calls Tryz.prog 215 #[.agg #[vn,vl],.int .i64 k] w fun e w'=>e= .returned (.bool (hasL ns ls k))∧Below w.heap.size w w':=by
 obtain⟨Al,cl,rfl,hcl,hml,_⟩:=hl.formI;unfold maxLen at hml
 cases hw:winB ns ls
 ·have HR:Hid (hasL ns ls k=false):=Lib.hid (by simp[hasL,hw])
  go_enter Tryz.func215,Tryz.ntmps215
  go_wp2_with fail
  refine(zP _ _ ns ls _ _ (hn.below (by exact bel_)) (hl.below (by exact bel_)) hw).mono ?_
  rintro e w1 ⟨rfl,hb1⟩;(first|(with_reducible have hcf1:=z8 hb1)|have hcf1:=bcell hb1);obtain⟨hc1,hf1⟩:=hcf1;have hz1:=hb1.size;(try simp at hz1);(try have hp1_0:=p0_ w w1);(try have hp1_1:=p1_ w w1);(try have hp1_2:=p2_ w w1);(try have hp1_3:=p3_ w w1)
  go_wp2;go_ret
  exact⟨za HR.out.symm,by exact bel_⟩
 ·have HR:Hid (hasL ns ls k=inB k 0 ((ls.length:Int) -1)):=Lib.hid (by simp[hasL,hw])
  go_enter Tryz.func215,Tryz.ntmps215
  go_wp2_with fail
  refine(zP _ _ ns ls _ _ (hn.below (by exact bel_)) (hl.below (by exact bel_)) hw).mono ?_
  rintro e w1 ⟨rfl,hb1⟩;(first|(with_reducible have hcf1:=z8 hb1)|have hcf1:=bcell hb1);obtain⟨hc1,hf1⟩:=hcf1;have hz1:=hb1.size;(try simp at hz1);(try have hp1_0:=p0_ w w1);(try have hp1_1:=p1_ w w1);(try have hp1_2:=p2_ w w1);(try have hp1_3:=p3_ w w1)
  go_wp2_with fail
  refine(yG _ _ _ _).mono ?_
  rintro e w' ⟨rfl,rfl⟩;rw[←HR.out];go_wp2;go_ret
  exact⟨rfl,by exact bel_⟩
theorem QK (vn vl:Value) (ns ls:List Pr) (k:Int) (b:Bool) (w:World) (hn:RP w vn ns) (hl:RP w vl ls) (hb:hasL ns ls k=b):
  Calls Tryz.prog 215 #[.agg #[vn,vl],.int .i64 k] w fun e w'=>e= .returned (.bool b)∧Below w.heap.size w w':=by
 subst hb;exact VP vn vl ns ls k w hn hl
theorem Qm (ls:List Pr) (k:Nat):(ls.drop k).flatMap prc=(ls.flatMap prc).drop (k*2):=by
 induction ls generalizing k with
 |nil=>simp
 |cons p ls ih=>
  cases k with
  |zero=>simp
  |succ k=>
   rw[List.drop_succ_cons,ih,List.flatMap_cons,show(k+1)*2=k*2+2 by omega];simp[prc]
theorem z36 (ls:List Pr) (k:Nat):(ls.take k).flatMap prc=(ls.flatMap prc).take (k*2):=by
 induction ls generalizing k with
 |nil=>simp
 |cons p ls ih=>
  cases k with
  |zero=>simp
  |succ k=>
   rw[List.take_succ_cons,List.flatMap_cons,ih,List.flatMap_cons,show(k+1)*2=k*2+2 by omega];simp[prc]
theorem VA (g:Nat) (t:TypeId):∀(vs:List Value) (o:Nat) (w:World) (cs:Array Value),w.heap[g]? =some (.cells cs t (0,0))→o+vs.length≤cs.size→
  (w.setCells g o vs).heap[g]? =some (.cells (cs.toList.take o++vs++cs.toList.drop (o+vs.length)).toArray t (0,0)):=by
 intro vs
 induction vs with
 |nil=>
  intro o w cs h ho;simp[World.setCells,h]
 |cons v vs ih=>
  intro o w cs h ho;have h':(w.setCell ⟨g,o,none⟩ v).heap[g]? =some (.cells (cs.setIfInBounds o v) t (0,0)):=Blk.set_ (show Blk w g t cs from h) o v;have:=ih (o+1) (w.setCell ⟨g,o,none⟩ v) (cs.setIfInBounds o v) h' (by simp at ho⊢;omega);have ho':o<cs.toList.length:=by simp at ho⊢;omega
  have e:(cs.setIfInBounds o v).toList =cs.toList.take o++v::cs.toList.drop (o+1):=by
   rw[Array.toList_setIfInBounds,List.set_eq_take_append_cons_drop,if_pos ho']
  have hl:(cs.toList.take o).length =o:=by simp at ho'⊢;omega
  show((w.setCell ⟨g,o,none⟩ v).setCells g (o+1) vs).heap[g]? =_
  rw[this,e]
  have e1:List.take (o+1) (cs.toList.take o++v::cs.toList.drop (o+1))=cs.toList.take o++[v]:=by
   rw[List.take_append,hl];have:o+1 -o=1:=by omega
   rw[this,List.take_of_length_le (by omega)];rfl
  have e2:List.drop (o+1+vs.length) (cs.toList.take o++v::cs.toList.drop (o+1))=cs.toList.drop (o+(v::vs).length):=by
   rw[List.drop_append,hl];have h3:o+1+vs.length -o=vs.length+1:=by omega
   rw[h3,List.drop_succ_cons,List.drop_drop,List.drop_of_length_le (by omega)];simp
   congr 1
   omega
  rw[e1,e2];simp
theorem z5n {t:TypeId} {base g cap:Nat} {w:World} {ls:List Pr} {k:Nat} (h:OwnP t base w (.slice (some ⟨g,0,none⟩) ls.length cap) ls) (hk:k<ls.length):
  OwnP t base (w.setCells g (k*2) ((ls.drop (k+1)).flatMap prc)) (.slice (some ⟨g,0,none⟩) (ls.length -1) cap) (ls.take k++ls.drop (k+1)):=by
 have ho:w.ownsRow base t 2 (.slice (some ⟨g,0,none⟩) ls.length cap) ls.length (ls.flatMap prc):=h;have hlen:(ls.take k++ls.drop (k+1)).length =ls.length -1:=by simp;omega
 have hfl:(ls.flatMap prc).length =ls.length*2:=zS prc 2 (fun _=>rfl) ls;have hdl:((ls.drop (k+1)).flatMap prc).length =(ls.length -(k+1))*2:=by rw[zS prc 2 (fun _=>rfl)];simp
 refine⟨zS prc 2 (fun _=>rfl) _,?_⟩
 rcases ho.2 with ⟨e,_⟩|⟨g',cap',cur,e,hb,hh,hnc,hcm,hsz,hxs⟩
 ·cases e
 ·cases e
  have hcur:ls.length*2≤cur.size:=by rw[hsz];exact Nat.mul_le_mul_right 2 hnc
  have hrow:=VA g t ((ls.drop (k+1)).flatMap prc) (k*2) w cur hh (by rw[hdl];omega);refine .inr ⟨g,cap,_,by rw[hlen],hb,hrow,by rw[hlen];omega,hcm,?_,?_⟩
  ·simp only[List.size_toArray,List.length_append,List.length_take,List.length_drop,hdl,Array.length_toList]
   omega
  ·rw[hlen,List.flatMap_append,Qm,z36,←hxs]
   have hc:cur.toList.length=cur.size:=Array.length_toList;have htl:(List.take (k*2) cur.toList).length =k*2:=by rw[List.length_take,hc];omega
   have e3:(List.drop ((k+1)*2) (List.take (ls.length*2) cur.toList)).length =(ls.length -1)*2 -k*2:=by rw[List.length_drop,List.length_take,hc];omega
   show List.take ((ls.length -1)*2) (List.take (k*2) cur.toList++_++_)=_
   rw[List.append_assoc,List.take_append,htl,List.take_of_length_le (by rw[htl];omega),List.take_left' e3,List.take_take,Nat.min_eq_left (by omega)]
theorem kX (g:Nat):∀(vs:List Value) (o:Nat) (w:World),(w.setCells g o vs).heap.size =w.heap.size
 | [],_,_=>rfl
 |v::vs,o,w=>by
  show((w.setCell ⟨g,o,none⟩ v).setCells g (o+1) vs).heap.size =_
  rw[kX g vs];simp[World.setCell]
theorem x5 (g:Nat):∀(vs:List Value) (o:Nat) (w:World),(w.setCells g o vs).tape =w.tape
 | [],_,_=>rfl
 |v::vs,o,w=>x5 g vs (o+1) (w.setCell ⟨g,o,none⟩ v)
theorem ZZ {P:Program} {w:World} {t ty e:TypeId} {i:TypeInfo} {base g cap c2:Nat} {ls:List Pr} {k:Nat} (ht:P.underlying t=some (.slice e)) (hi:P.info? e=some i) (hsize:i.size=2)
  (h:OwnP e base w (.slice (some ⟨g,0,none⟩) ls.length cap) ls) (hk:k<ls.length):
  (Builtin.append_ #[t,t] ty #[.slice (some ⟨g,0,none⟩) k cap,.slice (if cap=k+1 then some ⟨g,0,none⟩ else some ⟨g,(k+1)*2,none⟩) (ls.length -(k+1)) c2]).run P w=
   .ok (.slice (some ⟨g,0,none⟩) (ls.length -1) cap) (w.setCells g (k*2) ((ls.drop (k+1)).flatMap prc)):=by
 have hcap:ls.length≤cap:=by
  obtain⟨A',c',e1,e2,_⟩:=h.reads.form
  cases e1;exact e2
 have hdl:((ls.drop (k+1)).flatMap prc).length =(ls.length -(k+1))*2:=by rw[zS prc 2 (fun _=>rfl),List.length_drop]
 have hfl:(ls.flatMap prc).length =ls.length*2:=zS prc 2 (fun _=>rfl) ls;have ho:w.ownsRow base e 2 (.slice (some ⟨g,0,none⟩) ls.length cap) ls.length (ls.flatMap prc):=h;have hcell:∀j,j<ls.length*2→w.cell? ⟨g,j,none⟩=(ls.flatMap prc)[j]? :=fun j hj=>ho.cellAt j (by omega)
 have hsrc:Src P i.size t (.slice (if cap=k+1 then some ⟨g,0,none⟩ else some ⟨g,(k+1)*2,none⟩) (ls.length -(k+1)) c2) (ls.length -(k+1)) ((ls.drop (k+1)).flatMap prc) w:=by
  by_cases hck:cap=k+1
  ·rw[if_pos hck]
   have e0:ls.length -(k+1)=0:=by omega
   refine Src.ofSlice w ht _ _ _ _ (by rw[hsize];exact hdl) ?_ (Jh _)
   intro j u hu;have hj:=(List.getElem?_eq_some_iff.1 hu).1;rw[hdl] at hj;omega
  ·rw[if_neg hck]
   refine Src.ofSlice w ht _ _ _ _ (by rw[hsize];exact hdl) ?_ (Jh _)
   intro j u hu;have hj:=(List.getElem?_eq_some_iff.1 hu).1;rw[hdl] at hj;rw[ku,hcell _ (by omega),←hu,Qm,List.getElem?_drop]
 have hr:=run_append_room_src (P:=P) w t t ty e i ht hi g 0 k cap _ (ls.length -(k+1)) ((ls.drop (k+1)).flatMap prc) hsrc (by omega)
  (fun j hj=>by rw[hdl] at hj;rw[hsize,Nat.zero_add,hcell _ (by omega),List.getElem?_eq_getElem (by omega)];rfl)
  (fun j hj=>ho.frozenAt _)
 rw[hsize,Nat.zero_add,show k+(ls.length -(k+1))=ls.length -1 by omega] at hr;exact hr
theorem ji {P:Program} {w:World} {ops:Array Oper} {rest:List Oper} {o:Oper} {a:Act} {Q:Exit→Act→World→Prop} (hgd:o.guard=none) (s x:Operand) (t:TypeId)
  (ho:o.op= .call { callee:= .builtin .append,args:= #[s,x],argTypes:= #[t,t] })
  (base:Nat) (e:TypeId) (i:TypeInfo) (ht:P.underlying t=some (.slice e)) (hi:P.info? e=some i) (hsize:i.size=2) (g cap c2:Nat) (ls:List Pr) (k:Nat)
  (hs:a.eval s= .slice (some ⟨g,0,none⟩) k cap) (hx:a.eval x= .slice (if cap=k+1 then some ⟨g,0,none⟩ else some ⟨g,(k+1)*2,none⟩) (ls.length -(k+1)) c2)
  (hown:OwnP e base w (.slice (some ⟨g,0,none⟩) ls.length cap) ls) (hk:k<ls.length)
  (h:∀w',OwnP e base w' (.slice (some ⟨g,0,none⟩) (ls.length -1) cap) (ls.take k++ls.drop (k+1))→w.grownBy w' (some g)→wpList P ops Q rest (a.put o.dst (.slice (some ⟨g,0,none⟩) (ls.length -1) cap)) w'):
  wpList P ops Q (o::rest) a w:=
 wpList_plain hgd fun K hK=>by
  have hrun:=ZZ (ty:=o.type) (c2:=c2) ht hi hsize hown hk;unfold Oper.wp execOp;simp only[ho,resolve,invoke,builtin,Sem.run_bind,Sem.run_pure,Result.andThen_ok,List.map_toArray,List.map_cons,List.map_nil,hs,hx,hrun]
  exact hK _ _ (h _ (z5n hown hk) ⟨World.os_setCells _ _ _ _,x5 _ _ _ _,World.output_setCells _ _ _ _,by rw[kX];exact Nat.le_refl _,fun i hi hne=>World.heap_setCells_other _ _ _ _ hi (fun e=>hne (by rw[e]))⟩)
theorem z3B (vn vl:Value) (ns ls:List Pr) (k:Nat) (w:World) (hn:RP w vn ns) (hl:RP w vl ls) (h1:ns.length≤1048576) (h2:ls.length≤1048576) (hk:k<ls.length) (hw:hasL ns ls k=true):
  Calls Tryz.prog 162 #[.agg #[vn,vl],.int .i64 k] w (zC ns (ls.take k++ls.drop (k+1)) true w):=by
 obtain⟨j0,hj,jz0,jz1,jz2⟩:=info_parts qC
 go_enter Tryz.func162,Tryz.ntmps162
 go_wp2_with fail
 refine(qf _ _ ns ls _ (hn.below (by exact bel_)) (hl.below (by exact bel_)) h1 h2).mono ?_
 rintro e w1 ⟨An1,cn1,Al1,cl1,rfl,ho1,hb1⟩;have hz1:=hb1.size;simp at hz1
 have ho1':OwnW (w.heap.size+1+1) w1 (.slice An1 ns.length cn1) (.slice Al1 ls.length cl1) ns ls:=by simpa using ho1
 have hlt1:=ho1'.lt;have hA1:Blk w1 w.heap.size 27 #[vn,vl]:=Blk.below ((Blk.newAt rfl).alloc _) hb1 sz_;have hR1:Blk w1 (w.heap.size+1) 27 #[.slice none 0 0,.slice none 0 0]:=Blk.below (Blk.newAt (by simp)) hb1 sz_;have hbw1:Below w.heap.size w w1:=by exact bel_
 clear hb1 ho1;have n1:w.heap.size<w1.heap.size:=by omega
 have n2:w.heap.size+1<w1.heap.size:=by omega
 obtain⟨a_0,a_1⟩:=hA1.c2;have hbs:Below w1.heap.size w1 (w1.alloc (.cells #[.slice An1 ns.length cn1,.slice Al1 ls.length cl1] 27)):=by exact bel_
 have hbws:Below w.heap.size w (w1.alloc (.cells #[.slice An1 ns.length cn1,.slice Al1 ls.length cl1] 27)):=by exact bel_
 go_wp2_with fail
 refine(QK _ _ ns ls _ _ _ (hn.below hbws) (hl.below hbws) hw).mono ?_
 rintro e w2 ⟨rfl,hb2⟩;(first|(with_reducible have hcf2:=z8 hb2)|have hcf2:=bcell hb2);obtain⟨hc2,hf2⟩:=hcf2;have hz2:=hb2.size;(try simp at hz2);(try have hp2_0:=p0_ w w2);(try have hp2_1:=p1_ w w2);(try have hp2_2:=p2_ w w2);(try have hp2_3:=p3_ w w2)
 have hb12:Below w1.heap.size w1 w2:=hbs.trans (hb2.mono hbs.size);have hS2:Blk w2 w1.heap.size 27 #[.slice An1 ns.length cn1,.slice Al1 ls.length cl1]:=Blk.below (Blk.newAt rfl) hb2 sz_;have hR2:=hR1.below hb12 n2;have ho2:=ho1'.kept hb12;have hbw2:Below w.heap.size w w2:=hbw1.trans (hb12.mono hbw1.size);clear hb2 hc2 hf2 hbs hbws hb12 hA1 hR1 ho1' hbw1 a_0 a_1;obtain⟨s_0,s_1,s_f0,s_f1⟩:=hS2.b2
 rcases hcase:ho2.2.1.2 with ⟨_,h0⟩|⟨g,cap,cur,e1,hbg,hh,hnc,hcm,hrest⟩
 ·omega
 cases e1
 clear hcase hh hrest cur hcm
 by_cases hck:cl1=k+1
 ·subst hck
  have c1:(k:Int)≤((k+1:Nat):Int):=by omega
  have c2:(0:Int)≤(k:Int):=by omega
  have c3:(k:Int)+1≤(ls.length:Int):=by omega
  have c4:(ls.length:Int)≤((k+1:Nat):Int):=by omega
  have c1':(k:Int)≤(k:Int)+1:=by omega
  have c4':(ls.length:Int)≤(k:Int)+1:=by omega
  have c9:¬(k:Int)+1<(k:Int):=by omega
  have c10:¬(k:Int)+1<(ls.length:Int):=by omega
  have n3:w1.heap.size<w2.heap.size:=hS2.lt
  go_wp2_with fail
  have hwr:IntKind.i64.wrap ((k:Int)+1)=(k:Int)+1:=IntWalk.i64_in _ (by omega);have c5:(0:Int)≤(k:Int)+1:=by omega
  have c6:((k:Int)+1).toNat =k+1:=by omega
  have c7:¬(ls.length:Int)<(k:Int)+1:=by omega
  have c8:¬(k:Int)+1<0:=by omega
  go_still_tail 9,(by kernel_rfl)
  have hown:=Lib.hid ho2.2.1
  have hgS:¬g=w1.heap.size:=by
   have:=(hlt1 g (.inr rfl)).2;omega
  go_wp2_with (at_builtin;refine ji (c2:=0) rfl _ _ _ rfl (w.heap.size+1+1) 108 j0 Tryz.underlying25 hj jz1 g (k+1) ls k rfl (by rw[if_pos rfl,show ls.length -(k+1)=0 by omega];rfl) (OwnP.drew hown.out) hk ?_)
  intro w3 hcut hgr;have hS3:=Blk.grownR (Blk.drew hS2) hgr (fun b e=>by cases e;exact hgS);have hR3:=Blk.grownR (Blk.drew hR2) hgr (fun b e=>by cases e;omega);have hon3:OwnP 106 (w.heap.size+1+1) w3 (.slice An1 ns.length cn1) ns:=(OwnP.drew ho2.1).apart hgr (fun b hb e=>by cases e;exact ho2.2.2 _ hb rfl);have hoW3:OwnW (w.heap.size+1+1) w3 (.slice An1 ns.length cn1) (.slice (some ⟨g,0,none⟩) (ls.length -1) (k+1)) ns (ls.take k++ls.drop (k+1)):=⟨hon3,hcut,fun b hb hb2=>ho2.2.2 b hb hb2⟩;have hbw3:Below w.heap.size w w3:=(Below.drew hbw2).grown hgr (by have:=hbw2.size;simpa using this) (fun b e=>by cases e;omega);have hz3:=hgr.size
  have hoW4:=hoW3.setFar (p:=⟨w1.heap.size,1,none⟩) (by
   rintro(h|h)
   ·have:=(hlt1 _ (.inl h)).2
    exact absurd this (Nat.lt_irrefl _)
   ·have:=(hlt1 _ (.inr h)).2
    exact absurd this (Nat.lt_irrefl _)) (.slice (some ⟨g,0,none⟩) (ls.length -1) (k+1))
  have hbw4:=hbw3.setCell (p:=⟨w1.heap.size,1,none⟩) (show w.heap.size≤w1.heap.size by omega) (.slice (some ⟨g,0,none⟩) (ls.length -1) (k+1));have d1:¬w1.heap.size=w.heap.size+1:=by omega
  have hO:=Lib.hid (((hoW4.setLow (p:=⟨w.heap.size+1,0,none⟩) (show w.heap.size+1<w.heap.size+1+1 by omega) (.slice An1 ns.length cn1)).setLow (p:=⟨w.heap.size+1,1,none⟩) (show w.heap.size+1<w.heap.size+1+1 by omega) (.slice (some ⟨g,0,none⟩) (ls.length -1) (k+1))).mono (show w.heap.size≤_ by omega));have HB:=Lib.hid ((hbw4.setCell (p:=⟨w.heap.size+1,0,none⟩) sz_ (.slice An1 ns.length cn1)).setCell (p:=⟨w.heap.size+1,1,none⟩) sz_ (.slice (some ⟨g,0,none⟩) (ls.length -1) (k+1)));have HLEN:=Lib.hid (show ls.length -1=(ls.take k++ls.drop (k+1)).length by simp;omega);clear s_0 s_1 s_f0 s_f1 ho2 hoW3 hoW4 hbw3 hbw4 hon3 hcut hgr hbw2 hS2 hR2 hown hwr;obtain⟨s_0,s_1,s_f0,s_f1⟩:=hS3.b2;obtain⟨r_0,r_1,r_f0,r_f1⟩:=hR3.b2;clear hS3 hR3;generalize List.take k ls++List.drop (k+1) ls=LL at*;generalize w1.heap.size=B1 at*;go_wp2;exact bodyPost_ret (v:= .tuple #[.agg #[.slice An1 ns.length cn1,.slice (some ⟨g,0,none⟩) (ls.length -1) (k+1)],.bool true]) (by simp[results,Tryz.results162,go_sem,r_0,r_1,s_0,s_1,d1]) rfl (zC.mk rfl rfl HLEN.out hO.out HB.out)
 ·have c1:(k:Int)≤((cl1:Nat):Int):=by omega
  have c2:(0:Int)≤(k:Int):=by omega
  have c3:(k:Int)+1≤(ls.length:Int):=by omega
  have c4:(ls.length:Int)≤((cl1:Nat):Int):=by omega
  have n3:w1.heap.size<w2.heap.size:=hS2.lt
  go_wp2_with fail
  have hwr:IntKind.i64.wrap ((k:Int)+1)=(k:Int)+1:=IntWalk.i64_in _ (by omega);have c5:(0:Int)≤(k:Int)+1:=by omega
  have c6:((k:Int)+1).toNat =k+1:=by omega
  have c7:¬(ls.length:Int)<(k:Int)+1:=by omega
  have c8:¬(k:Int)+1<0:=by omega
  go_still_tail 9,(by kernel_rfl)
  have hown:=Lib.hid ho2.2.1
  have hgS:¬g=w1.heap.size:=by
   have:=(hlt1 g (.inr rfl)).2;omega
  go_wp2_with (at_builtin;refine ji (c2:=cl1 -(k+1)) rfl _ _ _ rfl (w.heap.size+1+1) 108 j0 Tryz.underlying25 hj jz1 g (cl1) ls k rfl (by rw[if_neg hck];rfl) (OwnP.drew hown.out) hk ?_)
  intro w3 hcut hgr;have hS3:=Blk.grownR (Blk.drew hS2) hgr (fun b e=>by cases e;exact hgS);have hR3:=Blk.grownR (Blk.drew hR2) hgr (fun b e=>by cases e;omega);have hon3:OwnP 106 (w.heap.size+1+1) w3 (.slice An1 ns.length cn1) ns:=(OwnP.drew ho2.1).apart hgr (fun b hb e=>by cases e;exact ho2.2.2 _ hb rfl);have hoW3:OwnW (w.heap.size+1+1) w3 (.slice An1 ns.length cn1) (.slice (some ⟨g,0,none⟩) (ls.length -1) (cl1)) ns (ls.take k++ls.drop (k+1)):=⟨hon3,hcut,fun b hb hb2=>ho2.2.2 b hb hb2⟩;have hbw3:Below w.heap.size w w3:=(Below.drew hbw2).grown hgr (by have:=hbw2.size;simpa using this) (fun b e=>by cases e;omega);have hz3:=hgr.size
  have hoW4:=hoW3.setFar (p:=⟨w1.heap.size,1,none⟩) (by
   rintro(h|h)
   ·have:=(hlt1 _ (.inl h)).2
    exact absurd this (Nat.lt_irrefl _)
   ·have:=(hlt1 _ (.inr h)).2
    exact absurd this (Nat.lt_irrefl _)) (.slice (some ⟨g,0,none⟩) (ls.length -1) (cl1))
  have hbw4:=hbw3.setCell (p:=⟨w1.heap.size,1,none⟩) (show w.heap.size≤w1.heap.size by omega) (.slice (some ⟨g,0,none⟩) (ls.length -1) (cl1));have d1:¬w1.heap.size=w.heap.size+1:=by omega
  have hO:=Lib.hid (((hoW4.setLow (p:=⟨w.heap.size+1,0,none⟩) (show w.heap.size+1<w.heap.size+1+1 by omega) (.slice An1 ns.length cn1)).setLow (p:=⟨w.heap.size+1,1,none⟩) (show w.heap.size+1<w.heap.size+1+1 by omega) (.slice (some ⟨g,0,none⟩) (ls.length -1) (cl1))).mono (show w.heap.size≤_ by omega));have HB:=Lib.hid ((hbw4.setCell (p:=⟨w.heap.size+1,0,none⟩) sz_ (.slice An1 ns.length cn1)).setCell (p:=⟨w.heap.size+1,1,none⟩) sz_ (.slice (some ⟨g,0,none⟩) (ls.length -1) (cl1)));have HLEN:=Lib.hid (show ls.length -1=(ls.take k++ls.drop (k+1)).length by simp;omega);clear s_0 s_1 s_f0 s_f1 ho2 hoW3 hoW4 hbw3 hbw4 hon3 hcut hgr hbw2 hS2 hR2 hown hwr;obtain⟨s_0,s_1,s_f0,s_f1⟩:=hS3.b2;obtain⟨r_0,r_1,r_f0,r_f1⟩:=hR3.b2;clear hS3 hR3;generalize List.take k ls++List.drop (k+1) ls=LL at*;generalize w1.heap.size=B1 at*;go_wp2;exact bodyPost_ret (v:= .tuple #[.agg #[.slice An1 ns.length cn1,.slice (some ⟨g,0,none⟩) (ls.length -1) (cl1)],.bool true]) (by simp[results,Tryz.results162,go_sem,r_0,r_1,s_0,s_1,d1]) rfl (zC.mk rfl rfl HLEN.out hO.out HB.out)
attribute [local go_sem ↓] zu zw zY zZ
theorem z44 (vn vl:Value) (ns ls:List Pr) (k:Int) (w:World) (hn:RP w vn ns) (hl:RP w vl ls) (h1:ns.length≤1048576) (h2:ls.length≤1048576) (hw:hasL ns ls k=false):
  Calls Tryz.prog 162 #[.agg #[vn,vl],.int .i64 k] w (zC ns ls false w):=by
 go_enter Tryz.func162,Tryz.ntmps162
 go_wp2_with fail
 refine(qf _ _ ns ls _ (hn.below (by exact bel_)) (hl.below (by exact bel_)) h1 h2).mono ?_
 rintro e w1 ⟨An1,cn1,Al1,cl1,rfl,ho1,hb1⟩;have hz1:=hb1.size;simp at hz1
 have ho1':OwnW (w.heap.size+1+1) w1 (.slice An1 ns.length cn1) (.slice Al1 ls.length cl1) ns ls:=by simpa using ho1
 have hA1:Blk w1 w.heap.size 27 #[vn,vl]:=Blk.below ((Blk.newAt rfl).alloc _) hb1 sz_;have hR1:Blk w1 (w.heap.size+1) 27 #[.slice none 0 0,.slice none 0 0]:=Blk.below (Blk.newAt (by simp)) hb1 sz_;have hbw1:Below w.heap.size w w1:=by exact bel_
 clear hb1 ho1;have n1:w.heap.size<w1.heap.size:=by omega
 have n2:w.heap.size+1<w1.heap.size:=by omega
 obtain⟨a_0,a_1⟩:=hA1.c2;have hbs:Below w1.heap.size w1 (w1.alloc (.cells #[.slice An1 ns.length cn1,.slice Al1 ls.length cl1] 27)):=by exact bel_
 have hbws:Below w.heap.size w (w1.alloc (.cells #[.slice An1 ns.length cn1,.slice Al1 ls.length cl1] 27)):=by exact bel_
 go_wp2_with fail
 refine(QK _ _ ns ls _ _ _ (hn.below hbws) (hl.below hbws) hw).mono ?_
 rintro e w2 ⟨rfl,hb2⟩;(first|(with_reducible have hcf2:=z8 hb2)|have hcf2:=bcell hb2);obtain⟨hc2,hf2⟩:=hcf2;have hz2:=hb2.size;(try simp at hz2);(try have hp2_0:=p0_ w w2);(try have hp2_1:=p1_ w w2);(try have hp2_2:=p2_ w w2);(try have hp2_3:=p3_ w w2)
 have hb12:Below w1.heap.size w1 w2:=hbs.trans (hb2.mono hbs.size);have hS2:Blk w2 w1.heap.size 27 #[.slice An1 ns.length cn1,.slice Al1 ls.length cl1]:=Blk.below (Blk.newAt rfl) hb2 sz_;have hR2:=hR1.below hb12 n2;have ho2:=ho1'.kept hb12;have hbw2:Below w.heap.size w w2:=hbw1.trans (hb12.mono hbw1.size);clear hb2 hc2 hf2 hbs hbws hb12 hA1 hR1 ho1' hbw1 a_0 a_1;obtain⟨s_0,s_1,s_f0,s_f1⟩:=hS2.b2;obtain⟨r_0,r_1,r_f0,r_f1⟩:=hR2.b2;have hne:¬w1.heap.size=w.heap.size+1:=by omega
 have hO:=Lib.hid (((ho2.setLow (p:=⟨w.heap.size+1,0,none⟩) sz_ (.slice An1 ns.length cn1)).setLow (p:=⟨w.heap.size+1,1,none⟩) sz_ (.slice Al1 ls.length cl1)).mono (show w.heap.size≤_ by omega));have HB:=Lib.hid ((hbw2.setCell (p:=⟨w.heap.size+1,0,none⟩) sz_ (.slice An1 ns.length cn1)).setCell (p:=⟨w.heap.size+1,1,none⟩) sz_ (.slice Al1 ls.length cl1));clear ho2 hbw2;generalize w1.heap.size=B1 at*;go_wp2;exact bodyPost_ret (v:= .tuple #[.agg #[.slice An1 ns.length cn1,.slice Al1 ls.length cl1],.bool false]) (by simp[results,Tryz.results162,go_sem,r_0,r_1,s_0,s_1]) rfl ⟨_,_,_,_,rfl,hO.out,HB.out⟩
theorem RP.drop {w:World} {b off n c:Nat} {l:List (Int×Int)} (h:RP w (.slice (some ⟨b,off,none⟩) n c) l) (k:Nat) (hk:k≤l.length):
  RP w (.slice (if c=k then some ⟨b,off,none⟩ else some ⟨b,off+k*2,none⟩) (l.length -k) (c -k)) (l.drop k):=by
 obtain⟨h0,A',c',hv,h1,h2,h3⟩:=h
 cases hv
 have hlen:(l.drop k).length =l.length -k:=by simp
 by_cases hck:c=k
 ·rw[if_pos hck]
  exact⟨zS prc 2 (fun _=>rfl) _,_,_,by rw[hlen],by omega,by omega,fun hn=>by omega⟩
 ·rw[if_neg hck]
  refine⟨zS prc 2 (fun _=>rfl) _,_,_,by rw[hlen],by omega,by omega,fun hn=>?_⟩
  obtain⟨b',off',e1,e2,e3⟩:=h3 (by omega)
  cases e1
  refine⟨b,off+k*2,rfl,e2,fun j u hu=>?_⟩
  have:=e3 (k*2+j) u (by rw[←hu,Qm,List.getElem?_drop]);rw[←Nat.add_assoc] at this;exact this
theorem z4H (vn vl:Value) (ns ls:List Pr) (k:Int) (w:World) (hn:RP w vn ns) (hl:RP w vl ls) (h1:ns.length≤1048576) (h2:ls.length≤1048576) (hw:hasL ns ls k=false):
  Calls Tryz.prog 108 #[.agg #[vn,vl],.int .i64 k] w (zC ns ls false w):=by
 obtain⟨Al,cl,rfl,hcl,hml,_⟩:=hl.formI;unfold maxLen at hml;have HW:=Lib.hid hw;clear hw
 go_enter Tryz.func108,Tryz.ntmps108
 go_wp2_with fail
 refine(qg _ _ ns ls _ (hn.below (by exact bel_)) (hl.below (by exact bel_)) h1 h2).mono ?_
 rintro e w1 ⟨An1,cn1,Al1,cl1,rfl,ho1,hb1⟩;have hz1:=hb1.size;simp at hz1
 have ho1':OwnW (w.heap.size+1+1) w1 (.slice An1 ns.length cn1) (.slice Al1 ls.length cl1) ns ls:=by simpa using ho1
 have hA1:Blk w1 w.heap.size 27 #[vn,.slice Al ls.length cl]:=Blk.below ((Blk.newAt rfl).alloc _) hb1 sz_;have hR1:Blk w1 (w.heap.size+1) 27 #[.slice none 0 0,.slice none 0 0]:=Blk.below (Blk.newAt (by simp)) hb1 sz_;have hbw1:Below w.heap.size w w1:=by exact bel_
 clear hb1 ho1;have n1:w.heap.size<w1.heap.size:=by omega
 have n2:w.heap.size+1<w1.heap.size:=by omega
 obtain⟨a_0,a_1⟩:=hA1.c2;have hbs:Below w1.heap.size w1 (w1.alloc (.cells #[.slice An1 ns.length cn1,.slice Al1 ls.length cl1] 27)):=by exact bel_
 have hbws:Below w.heap.size w (w1.alloc (.cells #[.slice An1 ns.length cn1,.slice Al1 ls.length cl1] 27)):=by exact bel_
 cases hw:winB ns ls
 ·go_wp2_with fail
  refine(zE _ _ ns ls _ _ (hn.below hbws) (hl.below hbws) hw).mono ?_
  rintro e w2 ⟨rfl,hb2⟩;(first|(with_reducible have hcf2:=z8 hb2)|have hcf2:=bcell hb2);obtain⟨hc2,hf2⟩:=hcf2;have hz2:=hb2.size;(try simp at hz2);(try have hp2_0:=p0_ w w2);(try have hp2_1:=p1_ w w2);(try have hp2_2:=p2_ w w2);(try have hp2_3:=p3_ w w2)
  have hb12:Below w1.heap.size w1 w2:=hbs.trans (hb2.mono hbs.size);have hS2:Blk w2 w1.heap.size 27 #[.slice An1 ns.length cn1,.slice Al1 ls.length cl1]:=Blk.below (Blk.newAt rfl) hb2 sz_;have hR2:=hR1.below hb12 n2;have ho2:=ho1'.kept hb12;have hbw2:Below w.heap.size w w2:=hbw1.trans (hb12.mono hbw1.size);clear hb2 hc2 hf2 hbs hbws hb12 hA1 hR1 ho1' hbw1 a_0 a_1;obtain⟨s_0,s_1,s_f0,s_f1⟩:=hS2.b2;obtain⟨r_0,r_1,r_f0,r_f1⟩:=hR2.b2;have hne:¬w1.heap.size=w.heap.size+1:=by omega
  have hO:=Lib.hid (((ho2.setLow (p:=⟨w.heap.size+1,0,none⟩) sz_ (.slice An1 ns.length cn1)).setLow (p:=⟨w.heap.size+1,1,none⟩) sz_ (.slice Al1 ls.length cl1)).mono (show w.heap.size≤_ by omega));have HB:=Lib.hid ((hbw2.setCell (p:=⟨w.heap.size+1,0,none⟩) sz_ (.slice An1 ns.length cn1)).setCell (p:=⟨w.heap.size+1,1,none⟩) sz_ (.slice Al1 ls.length cl1));clear ho2 hbw2;generalize w1.heap.size=B1 at*;go_wp2;exact bodyPost_ret (v:= .tuple #[.agg #[.slice An1 ns.length cn1,.slice Al1 ls.length cl1],.bool false]) (by simp[results,Tryz.results108,go_sem,r_0,r_1,s_0,s_1]) rfl ⟨_,_,_,_,rfl,hO.out,HB.out⟩
 ·have i1:inB k 0 ((ls.length:Int) -1)=false:=by
   have:=HW.out;unfold hasL at this;rw[hw] at this
   simpa using this
  go_wp2_with fail
  refine(zE _ _ ns ls _ _ (hn.below hbws) (hl.below hbws) hw).mono ?_
  rintro e w2 ⟨rfl,hb2⟩;(first|(with_reducible have hcf2:=z8 hb2)|have hcf2:=bcell hb2);obtain⟨hc2,hf2⟩:=hcf2;have hz2:=hb2.size;(try simp at hz2);(try have hp2_0:=p0_ w w2);(try have hp2_1:=p1_ w w2);(try have hp2_2:=p2_ w w2);(try have hp2_3:=p3_ w w2)
  have hA2:=(hA1.alloc (.cells #[.slice An1 ns.length cn1,.slice Al1 ls.length cl1] 27)).below hb2 sz_;obtain⟨b_0,b_1⟩:=hA2.c2
  go_wp2_with fail
  refine(zF _ _ _ _ _ i1).mono ?_
  rintro e w' ⟨rfl,rfl⟩;clear hA2 b_0 b_1;have hb12:Below w1.heap.size w1 w2:=hbs.trans (hb2.mono hbs.size);have hS2:Blk w2 w1.heap.size 27 #[.slice An1 ns.length cn1,.slice Al1 ls.length cl1]:=Blk.below (Blk.newAt rfl) hb2 sz_;have hR2:=hR1.below hb12 n2;have ho2:=ho1'.kept hb12;have hbw2:Below w.heap.size w w2:=hbw1.trans (hb12.mono hbw1.size);clear hb2 hc2 hf2 hbs hbws hb12 hA1 hR1 ho1' hbw1 a_0 a_1;obtain⟨s_0,s_1,s_f0,s_f1⟩:=hS2.b2;obtain⟨r_0,r_1,r_f0,r_f1⟩:=hR2.b2;have hne:¬w1.heap.size=w.heap.size+1:=by omega
  have hO:=Lib.hid (((ho2.setLow (p:=⟨w.heap.size+1,0,none⟩) sz_ (.slice An1 ns.length cn1)).setLow (p:=⟨w.heap.size+1,1,none⟩) sz_ (.slice Al1 ls.length cl1)).mono (show w.heap.size≤_ by omega));have HB:=Lib.hid ((hbw2.setCell (p:=⟨w.heap.size+1,0,none⟩) sz_ (.slice An1 ns.length cn1)).setCell (p:=⟨w.heap.size+1,1,none⟩) sz_ (.slice Al1 ls.length cl1));clear ho2 hbw2;generalize w1.heap.size=B1 at*;go_wp2;exact bodyPost_ret (v:= .tuple #[.agg #[.slice An1 ns.length cn1,.slice Al1 ls.length cl1],.bool false]) (by simp[results,Tryz.results108,go_sem,r_0,r_1,s_0,s_1]) rfl ⟨_,_,_,_,rfl,hO.out,HB.out⟩
end Go.Proofs.YtnjcpljhmhdhkaaGreat
