/- part 23 -/
import Derived.Test.YtnjcpljhmhdhkaaGreatTPk22
import Derived.OwnWalk
set_option linter.unusedSimpArgs false
set_option linter.unusedVariables false
set_option maxRecDepth 100000
set_option maxHeartbeats 8000000
namespace Go.Proofs.YtnjcpljhmhdhkaaGreat
open Go.RowKit
def vT (zs:List Int) (k:Nat):List Int:=zs.take k++List.replicate (zs.length -k) 0
theorem z3o (zs:List Int) (k:Nat) (h:k≤zs.length):(vT zs k).length =zs.length:=by simp[vT];omega
theorem z1g (zs:List Int):vT zs 0=List.replicate zs.length 0:=by simp[vT]
theorem z2P (zs:List Int):vT zs zs.length=zs:=by simp[vT]
theorem z1s (zs:List Int) (k:Nat) (h:k<zs.length):(vT zs k).set k (zs.getD k 0)=vT zs (k+1):=by
 unfold vT;have e:(zs.take k).length =k:=by simp;omega
 rw[List.set_append,if_neg (by omega),e,Nat.sub_self,show zs.length -k=(zs.length -(k+1))+1 by omega,List.replicate_succ,List.set_cons_zero,List.take_succ_eq_append_getElem h,List.append_assoc];simp[List.getD,h]
theorem z0N (v:Value) (l:List Int) (n:Int) (w:World) (h:RI w v l) (h0:0≤n) (h1:n≤1000000000):
  Calls Tryz.prog 91 #[v,.int .i64 n] w fun e w'=>e= .returned (.int .i64 (szF n l.length))∧w=w':=by
 obtain⟨A,c,rfl,hc,hm,hcell⟩:=h.form;unfold maxLen at hm;clear h hcell
 by_cases hlt:n<l.length
 ·have hneg:n -(l.length:Int)<0:=by omega
  have HF:Hid (szF n l.length= -1):=Lib.hid (by unfold szF;rw[if_pos hlt])
  go_enter Tryz.func91,Tryz.ntmps91
  go_wp2
  all_goals go_ret
  all_goals exact⟨ze HF.out.symm,rfl⟩
 ·have hneg:¬n -(l.length:Int)<0:=by omega
  have HF:Hid (szF n l.length=n -l.length):=Lib.hid (by unfold szF;rw[if_neg hlt])
  go_enter Tryz.func91,Tryz.ntmps91
  go_wp2
  all_goals go_ret
  all_goals exact⟨ze HF.out.symm,rfl⟩
theorem z4E (v:Value) (zs:List Int) (w:World) (h:RI w v zs) (hle:zs.length≤1048576):
  Calls Tryz.prog 56 #[v] w (RetI zs w):=by
 obtain⟨A,c,rfl,hc,hm,hcell⟩:=h.form;unfold maxLen at hm;clear h;obtain⟨i0,hi,iz0,iz1,iz2⟩:=info_parts qu
 go_enter Tryz.func56,Tryz.ntmps56
 go_wp2_with (at_make;refine wpList_make_full _ rfl _ _ 31 rfl w.heap.size 3 i0 (.int .i64 0) 1 Tryz.underlying31 hi iz0 iz1 .i64 .i64 _ _ zs.length rfl rfl rfl rfl (by rw[iz2];omega) (by unfold maxLen;omega) (by omega) ?_)
 intro w1 hown1 hgr1;have hb1:Below w.heap.size w w1:=(Below.refl _ _).grown hgr1 (Nat.le_refl _) (by intro k hk;cases hk)
 have hown:OwnI w.heap.size w1 (.slice (some ⟨w.heap.size,0,none⟩) zs.length zs.length) (vT zs 0):=by
  have e:∀n:Nat,(madeCells #[.int .i64 0] n).toList =(List.replicate n (0:Int)).map vI:=by
   intro n
   apply List.ext_getElem?
   intro j
   by_cases hj:j<n
   ·simp only[madeCells,Array.toList_map,List.getElem?_map,Array.toList_range,List.getElem?_range hj,List.getElem?_replicate,if_pos hj,Option.map_some]
    congr 1
    show #[Value.int .i64 0][j%1]! =_
    rw[Nat.mod_one];rfl
   ·simp[madeCells,hj]
  unfold OwnI;rw[z1g,List.length_replicate,←e];exact hown1
 have hw1:w.heap.size≤w1.heap.size:=hb1.size;clear hown1 hgr1 iz0 iz1 iz2 hi;go_wp2
 go_loopw [4] (fun i wr=>∃k:Nat,k≤zs.length∧i= .int .i64 k∧OwnI w.heap.size wr (.slice (some ⟨w.heap.size,0,none⟩) zs.length zs.length) (vT zs k)∧Below w.heap.size w wr) (fun i _=>zs.length -(intOf i).toNat)
 case atStart=>exact⟨0,Nat.zero_le _,rfl,hown,hb1⟩
 case round=>
  obtain⟨k,hk,rfl,ho,hbl⟩:=hrel;clear hown hb1 hw1;have hfl:=z3o zs k hk
  by_cases hlt:k<zs.length
  ·obtain⟨b,off,rfl,hb,hcl⟩:=hcell (by omega)
   have hx:=(hbl.cell (p:=⟨b,off+k,none⟩) hb).trans (hcl k hlt);have hlt1:(k:Int)<(zs.length:Int):=by omega
   have ik1:(0:Int)≤(k:Int):=by omega
   have xp:=ho.cell (q:=k) (by omega);obtain⟨z,hz⟩:∃z,wr.cell? ⟨w.heap.size,k,none⟩=some z:=⟨_,xp⟩;have fp:=ho.frz k
   have HO:Hid (OwnI w.heap.size (wr.setCell ⟨w.heap.size,k,none⟩ (.int .i64 (zs.getD k 0))) (.slice (some ⟨w.heap.size,0,none⟩) zs.length zs.length) (vT zs (k+1))):=Lib.hid (by
    rw[←z1s zs k hlt];exact ho.set_ k _)
   have HB:=Lib.hid (hbl.setCell (p:=⟨w.heap.size,k,none⟩) (Nat.le_refl _) (.int .i64 (zs.getD k 0)));generalize zs.getD k 0=y at*;clear ho hbl hcl hcell xp;go_wp2;go_roundw
   case rel=>exact⟨k+1,by omega,by go_num,HO.out,HB.out⟩
   case measure=>simp[intOf];omega
  ·have hkk:k=zs.length:=by omega
   subst hkk;rw[z2P] at ho;clear hcell;go_wp2;go_ret
   exact⟨_,rfl,ho,hbl⟩
open Go.ChangeShapes Go.WideShapes Go.Deep Go.RowKit Go.Joins
structure St where
 D:Dr
 cs:List Int
 ds:List Dp
 fund:Int
structure RSt (w:World) (a b c d e f g:Value) (S:St):Prop where
 dr:RD w a b c d e S.D
 cs:RI w f S.cs
 ds:RDp w g S.ds
theorem RSt.below {w w':World} {a b c d e f g:Value} {S:St} (h:RSt w a b c d e f g S) (hb:Below w.heap.size w w'):RSt w' a b c d e f g S:=
 ⟨h.dr.below hb,h.cs.below hb,h.ds.below hb⟩
section
variable {H:Type} {enc:TypeId×Value→H} {w:World} {base:Nat} {spare:Nat→Bool} {held:Bool}
theorem list8 {α:Type} {l:List α} (h:l.length=8):∃a b c d e f g i,l=[a,b,c,d,e,f,g,i]:=by
 match l,h with
 | [a,b,c,d,e,f,g,i],_=>exact⟨a,b,c,d,e,f,g,i,rfl⟩
theorem z20 {n:Nat} {cs:List Value} {x:DataW H×List MemPlace} (h:DataW.trod enc Tryz.prog w base spare held n 58 cs=some x):
  ∃u0 u1 u2 u3 u4 D,cs=[u0,u1,u2,u3,u4]∧RD w u0 u1 u2 u3 u4 D:=by
 obtain⟨ys,m,_,_,hcl,hyl,hf⟩:=DataW.trod_struct Tryz.underlying58 h;have hC:Tryz.prog.cellsOf 58=5:=by kernel_rfl
 rw[hC] at hcl;obtain⟨u0,u1,u2,u3,u4,rfl⟩:=list5 hcl;have hyl':ys.length=3:=hyl;have h0:DataW.trod enc Tryz.prog w base spare held m 55 (List.take (Tryz.prog.cellsOf 55) (List.drop 0 [u0,u1,u2,u3,u4]))=ys[0]? :=hf 0 _ rfl;have h1:DataW.trod enc Tryz.prog w base spare held m 55 (List.take (Tryz.prog.cellsOf 55) (List.drop 2 [u0,u1,u2,u3,u4]))=ys[1]? :=hf 1 _ rfl;have h2:DataW.trod enc Tryz.prog w base spare held m 56 (List.take (Tryz.prog.cellsOf 56) (List.drop 4 [u0,u1,u2,u3,u4]))=ys[2]? :=hf 2 _ rfl;rw[List.getElem?_eq_getElem (show 0<ys.length by omega)] at h0;rw[List.getElem?_eq_getElem (show 1<ys.length by omega)] at h1;rw[List.getElem?_eq_getElem (show 2<ys.length by omega)] at h2;have c0:Tryz.prog.cellsOf 56=1:=by kernel_rfl
 have c1:Tryz.prog.cellsOf 55=2:=by kernel_rfl
 simp only[c0,c1,List.drop_zero,List.drop_succ_cons,List.take_succ_cons,List.take_zero] at h0 h1 h2
 obtain⟨fn,fl,hfn,hfl⟩:=kb h0;obtain⟨nn,nl,hnn,hnl⟩:=kb h1;obtain⟨ss,hss⟩:=z1d h2;exact⟨u0,u1,u2,u3,u4,⟨fn,fl,nn,nl,ss⟩,rfl,hfn,hfl,hnn,hnl,hss⟩
theorem z2S {n:Nat} {v:Value} {x:DataW H×List MemPlace} (h:DataW.trod enc Tryz.prog w base spare held n 31 [v]=some x):∃zs:List Int,RI w v zs:=by
 rcases open_ints Tryz.underlying31 Tryz.underlying3 (by kernel_rfl) h with ⟨hcs,hx⟩|⟨a,len,cap,zs,hcs,_,hl,hm,hz,hx,hcell,hwz⟩
 ·simp only[List.cons.injEq,and_true] at hcs
  subst hcs;exact⟨[],RS.nil _ _⟩
 ·simp only[List.cons.injEq,and_true] at hcs
  subst hcs;have hle:len≤zs.length:=by rw[hz];split<;>omega
  have hlen:(zs.take len).length =len:=by simp;omega
  refine⟨zs.take len,⟨by simp,some a,cap,by rw[hlen],by rw[hlen];exact hl,by rw[hlen];omega,fun hn=>?_⟩⟩
  have hn':0<len:=by rw[hlen] at hn;exact hn
  have h0:=hcell 0 (by omega);obtain⟨ab,ao,spot⟩:=a;have hspot:spot=none:=by simpa[Addr.add] using World.cell?_spot h0
  subst hspot;refine⟨ab,ao,rfl,?_,fun j u hu=>?_⟩
  ·have:=World.block_lt_of_cell? w _ h0
   simpa[Addr.add] using this
  ·have hj:j<len:=by
    have h1:=(List.getElem?_eq_some_iff.1 hu).1;simp at h1
    omega
   have hc:=hcell j (by omega);have e1:zs.getD j 0=zs[j]:=by simp[List.getD,List.getElem?_eq_getElem (show j<zs.length by omega)]
   rw[e1] at hc
   have hu':u= .int .i64 zs[j]:=by
    rw[List.getElem?_map,List.getElem?_take,if_pos hj,List.getElem?_eq_getElem (by omega)] at hu
    simpa[vI] using hu.symm
   rw[hu']
   by_cases h0:j=0
   ·subst h0;simpa[Addr.add] using hc
   ·simpa[Addr.add,h0] using hc
theorem z2R {n:Nat} {v:Value} {x:DataW H×List MemPlace} (h:DataW.trod enc Tryz.prog w base spare held n 59 [v]=some x):∃l:List Dp,RDp w v l:=by
 have hv:∃A len cap,v= .slice A len cap:=by
  rcases open_slice Tryz.underlying59 h with ⟨hcs,_⟩|⟨a,len,cap,m,n',D,Pl,hcs,_⟩
  ·simp only[List.cons.injEq,and_true] at hcs
   exact⟨_,_,_,hcs⟩
  ·simp only[List.cons.injEq,and_true] at hcs
   exact⟨_,_,_,hcs⟩
 obtain⟨A,len,cap,rfl⟩:=hv;exact Xi h
theorem z5D {v:Value} {d:DataW H} {p:List MemPlace} (hval:Value.okWide Tryz.prog w .any base 61 v) (h:DataW.Trod enc Tryz.prog w 0 spare held 61 v d p):
  ∃v0 v1 v2 v3 v4 v5 v6 S,v= .agg #[v0,v1,v2,v3,v4,v5,v6,.int .i64 (St.fund S)]∧RSt w v0 v1 v2 v3 v4 v5 v6 S:=by
 obtain⟨cs,rfl,hsz⟩:=okWide_struct Tryz.underlying61 hval;have hC:Tryz.prog.cellsOf 61=8:=by kernel_rfl
 rw[hC] at hsz;obtain⟨fuel,hf⟩:=h;obtain⟨ys,m,_,_,hcl,hyl,hf⟩:=DataW.trod_struct Tryz.underlying61 hf;obtain⟨cs⟩:=cs;obtain⟨u0,u1,u2,u3,u4,u5,u6,u7,rfl⟩:=list8 (show cs.length=8 from hsz);have hyl':ys.length=4:=hyl;have h0:DataW.trod enc Tryz.prog w 0 spare held m 58 (List.take (Tryz.prog.cellsOf 58) (List.drop 0 [u0,u1,u2,u3,u4,u5,u6,u7]))=ys[0]? :=hf 0 _ rfl;have h1:DataW.trod enc Tryz.prog w 0 spare held m 31 (List.take (Tryz.prog.cellsOf 31) (List.drop 5 [u0,u1,u2,u3,u4,u5,u6,u7]))=ys[1]? :=hf 1 _ rfl;have h2:DataW.trod enc Tryz.prog w 0 spare held m 59 (List.take (Tryz.prog.cellsOf 59) (List.drop 6 [u0,u1,u2,u3,u4,u5,u6,u7]))=ys[2]? :=hf 2 _ rfl;have h3:DataW.trod enc Tryz.prog w 0 spare held m 3 (List.take (Tryz.prog.cellsOf 3) (List.drop 7 [u0,u1,u2,u3,u4,u5,u6,u7]))=ys[3]? :=hf 3 _ rfl;rw[List.getElem?_eq_getElem (show 0<ys.length by omega)] at h0;rw[List.getElem?_eq_getElem (show 1<ys.length by omega)] at h1;rw[List.getElem?_eq_getElem (show 2<ys.length by omega)] at h2;rw[List.getElem?_eq_getElem (show 3<ys.length by omega)] at h3;have c0:Tryz.prog.cellsOf 58=5:=by kernel_rfl
 have c1:Tryz.prog.cellsOf 31=1:=by kernel_rfl
 have c2:Tryz.prog.cellsOf 59=1:=by kernel_rfl
 have c3:Tryz.prog.cellsOf 3=1:=by kernel_rfl
 simp only[c0,c1,c2,c3,Value.cells,List.drop_zero,List.drop_succ_cons,List.take_succ_cons,List.take_zero] at h0 h1 h2 h3
 obtain⟨w0,w1,w2,w3,w4,D,e,hD⟩:=z20 h0;simp only[List.cons.injEq,and_true] at e
 obtain⟨rfl,rfl,rfl,rfl,rfl⟩:=e;obtain⟨zs,hzs⟩:=z2S h1;obtain⟨l,hl⟩:=z2R h2;obtain⟨k,e3,_,_⟩:=DataW.trod_int Tryz.underlying3 h3;simp at e3
 subst e3;exact⟨u0,u1,u2,u3,u4,u5,u6,⟨D,zs,l,k⟩,rfl,hD,hzs,hl⟩
end
def szSt (S:St):Int:=
 if szD 1048576 S.D<0 then -1 else if szF (szD 1048576 S.D) S.cs.length<0 then -1 else szF (szF (szD 1048576 S.D) S.cs.length) S.ds.length
structure StLe (S:St):Prop where
 D:DrLe S.D
 cs:S.cs.length≤1048576
 ds:S.ds.length≤1048576
theorem z4G {D:Dr} (h:¬szD 1048576 D<0):szD 1048576 D≤1048576:=by
 unfold szD at h⊢
 split
 ·omega
 ·rename_i h1
  rw[if_neg h1] at h
  split
  ·omega
  ·rename_i h2
   rw[if_neg h2] at h;have e1:=yM h1;have e2:=yM h2;have e3:=z29 h;omega
theorem VE {n:Int} {k:Nat} (h:¬szF n k<0):szF n k=n -k∧(k:Int)≤n:=by
 unfold szF at h⊢
 split
 ·rename_i h1;rw[if_pos h1] at h;omega
 ·omega
theorem z5v {S:St} (h:¬szSt S<0):StLe S:=by
 unfold szSt at h
 split at h
 ·omega
 ·rename_i h1
  split at h
  ·omega
  ·rename_i h2
   have e0:=z4G h1;have e1:=VE h2;have e2:=VE h;exact⟨z5S h1,by omega,by omega⟩
theorem z55 {n:Int} {k:Nat} (h:szF n k<0):szF n k= -1∨n<0:=by
 unfold szF at h⊢
 split
 ·exact .inl rfl
 ·rename_i h1;rw[if_neg h1] at h;right;omega
theorem QE (v0 v1 v2 v3 v4 v5 v6:Value) (S:St) (x:Int) (w:World) (h:RSt w v0 v1 v2 v3 v4 v5 v6 S) (hx:Hid (szSt S=x)):
  Calls Tryz.prog 26 #[.agg #[v0,v1,v2,v3,v4,v5,v6,.int .i64 S.fund],.int .i64 1048576] w fun e w'=>e= .returned (.int .i64 x)∧Below w.heap.size w w':=by
 obtain⟨y,hy⟩:∃y,szD 1048576 S.D=y:=⟨_,rfl⟩;have HY:=Lib.hid hy;have hdr:=h.dr
 by_cases hy0:y<0
 ·have hx':=hx.out
  unfold szSt at hx';rw[hy,if_pos hy0] at hx';subst hx';clear hy hx
  go_enter Tryz.func26,Tryz.ntmps26
  go_wp2_with fail
  refine(xg _ _ _ _ _ S.D y _ (hdr.below (by exact bel_)) HY).mono ?_
  rintro e w1 ⟨rfl,hb1⟩;(first|(with_reducible have hcf1:=z8 hb1)|have hcf1:=bcell hb1);obtain⟨hc1,hf1⟩:=hcf1;have hz1:=hb1.size;(try simp at hz1);(try have hp1_0:=p0_ w w1);(try have hp1_1:=p1_ w w1);(try have hp1_2:=p2_ w w1);(try have hp1_3:=p3_ w w1)
  go_wp2;go_ret
  exact⟨rfl,by exact bel_⟩
 ·have yub:y≤1048576:=by rw[←hy];exact z4G (by rw[hy];exact hy0)
  obtain⟨z,hz⟩:∃z,szF y S.cs.length=z:=⟨_,rfl⟩;have HZ:=Lib.hid hz
  by_cases hz0:z<0
  ·have hx':=hx.out
   unfold szSt at hx';rw[hy,if_neg hy0,hz,if_pos hz0] at hx';subst hx';clear hy hx hz
   go_enter Tryz.func26,Tryz.ntmps26
   go_wp2_with fail
   refine(xg _ _ _ _ _ S.D y _ (hdr.below (by exact bel_)) HY).mono ?_
   rintro e w1 ⟨rfl,hb1⟩;(first|(with_reducible have hcf1:=z8 hb1)|have hcf1:=bcell hb1);obtain⟨hc1,hf1⟩:=hcf1;have hz1:=hb1.size;(try simp at hz1);(try have hp1_0:=p0_ w w1);(try have hp1_1:=p1_ w w1);(try have hp1_2:=p2_ w w1);(try have hp1_3:=p3_ w w1)
   have hbw1:Below w.heap.size w w1:=by exact bel_
   have hX1:Blk w1 w.heap.size 61 #[v0,v1,v2,v3,v4,v5,v6,.int .i64 S.fund]:=Blk.below (Blk.newAt rfl) hb1 sz_;clear hb1 hc1 hf1;obtain⟨x_0,x_1,x_2,x_3,x_4,x_5,x_6,x_7⟩:=hX1.c8
   go_wp2_with fail
   refine(z0N _ S.cs y _ (h.cs.below hbw1) (by omega) (by omega)).mono ?_
   rintro e w' ⟨rfl,rfl⟩;rw[HZ.out];go_wp2;go_ret
   exact⟨rfl,hbw1⟩
  ·have zub:z≤1048576:=by have:=(VE (n:=y) (k:=S.cs.length) (by rw[hz];exact hz0)).1;omega
   have HW:Hid (szF z S.ds.length=x):=Lib.hid (by
    have hx':=hx.out;unfold szSt at hx';rw[hy,if_neg hy0,hz,if_neg hz0] at hx';exact hx')
   clear hy hx hz
   by_cases hx0:x<0
   all_goals
    have hx1:x<0→x= -1:=fun hh=>by
     rcases z55 (n:=z) (k:=S.ds.length) (by rw[HW.out];exact hh) with h1|h1
     ·rw[HW.out] at h1;exact h1
     ·omega
    have HX1:=Lib.hid hx1;clear hx1
    go_enter Tryz.func26,Tryz.ntmps26
    go_wp2_with fail
    refine(xg _ _ _ _ _ S.D y _ (hdr.below (by exact bel_)) HY).mono ?_
    rintro e w1 ⟨rfl,hb1⟩;(first|(with_reducible have hcf1:=z8 hb1)|have hcf1:=bcell hb1);obtain⟨hc1,hf1⟩:=hcf1;have hz1:=hb1.size;(try simp at hz1);(try have hp1_0:=p0_ w w1);(try have hp1_1:=p1_ w w1);(try have hp1_2:=p2_ w w1);(try have hp1_3:=p3_ w w1)
    have hbw1:Below w.heap.size w w1:=by exact bel_
    have hX1:Blk w1 w.heap.size 61 #[v0,v1,v2,v3,v4,v5,v6,.int .i64 S.fund]:=Blk.below (Blk.newAt rfl) hb1 sz_;clear hb1 hc1 hf1;obtain⟨x_0,x_1,x_2,x_3,x_4,x_5,x_6,x_7⟩:=hX1.c8
    go_wp2_with fail
    refine(z0N _ S.cs y _ (h.cs.below hbw1) (by omega) (by omega)).mono ?_
    rintro e w' ⟨rfl,rfl⟩;rw[HZ.out]
    go_wp2_with fail
    refine(ZU _ S.ds z _ (h.ds.below hbw1) (by omega) (by omega)).mono ?_
    rintro e w' ⟨rfl,rfl⟩;rw[HW.out];go_wp2;go_ret
    first
     |exact⟨ze (HX1.out (by assumption)).symm,hbw1⟩
     |exact⟨rfl,hbw1⟩
structure OwnSt (base:Nat) (w:World) (a b c d e f g:Value) (S:St) (fs:List SF):Prop where
 dr:OwnD base w a b c d e S.D fs
 cs:OwnI base w f S.cs
 ds:zH base w g S.ds
 d_c:∀k,qw a b c d e fs k→¬f.ownBlock=some k
 d_d:∀k,qw a b c d e fs k→¬g.ownBlock=some k
 c_d:∀k,f.ownBlock=some k→¬g.ownBlock=some k
def jy (a b c d e f g:Value) (fs:List SF) (k:Nat):Prop:=qw a b c d e fs k∨f.ownBlock=some k∨g.ownBlock=some k
section
variable {base:Nat} {w w':World} {a b c d e f g:Value} {S:St} {fs:List SF}
theorem OwnSt.lt (h:OwnSt base w a b c d e f g S fs) (k:Nat) (hk:jy a b c d e f g fs k):base≤k∧k<w.heap.size:=by
 rcases hk with hk|hk|hk
 ·exact h.dr.lt k hk
 ·exact h.cs.lt k hk
 ·exact World.ownsRow.lt h.ds k hk
theorem OwnSt.turned {T:Nat→Prop} (h:OwnSt base w a b c d e f g S fs) (hb:Turns T w w') (hs:∀k,jy a b c d e f g fs k→¬T k):OwnSt base w' a b c d e f g S fs:=
 ⟨h.dr.turned hb (fun k hk=>hs k (.inl hk)),qF h.cs hb (fun k hk=>hs k (.inr (.inl hk))),qF h.ds hb (fun k hk=>hs k (.inr (.inr hk))),h.d_c,h.d_d,h.c_d⟩
theorem OwnSt.kept (h:OwnSt base w a b c d e f g S fs) (hb:Below w.heap.size w w'):OwnSt base w' a b c d e f g S fs:=
 h.turned (T:=fun _=>False) (Turns.ofBelow hb) (fun _ _ h=>h)
theorem OwnSt.alloc (h:OwnSt base w a b c d e f g S fs) (o:Obj):OwnSt base (w.alloc o) a b c d e f g S fs:=h.kept ((Below.refl _ _).alloc (Nat.le_refl _) o)
theorem OwnSt.setLow (h:OwnSt base w a b c d e f g S fs) {p:Addr} (hp:p.block<base) (u:Value):OwnSt base (w.setCell p u) a b c d e f g S fs:=
 h.turned (T:=fun b=>b=p.block) (Turns.ofGrown (qO w p u) (fun k hk=>by cases hk;rfl)) (fun k hk e=>by have:=(h.lt k hk).1;omega)
theorem OwnD.setLow {D:Dr} (h:OwnD base w a b c d e D fs) {p:Addr} (hp:p.block<base) (u:Value):OwnD base (w.setCell p u) a b c d e D fs:=
 h.turned (S:=fun b=>b=p.block) (Turns.ofGrown (qO w p u) (fun k hk=>by cases hk;rfl)) (fun k hk e=>by have:=(h.lt k hk).1;omega)
theorem zH.mono {base base':Nat} {w:World} {v:Value} {l:List Dp} (h:zH base w v l) (hb:base'≤base):zH base' w v l:=by
 obtain⟨h1,h2⟩:=h;refine⟨h1,?_⟩
 rcases h2 with h2|⟨g,cap,cur,e1,e2,e3⟩
 ·exact .inl h2
 ·exact .inr ⟨g,cap,cur,e1,Nat.le_trans hb e2,e3⟩
theorem OwnSt.mono {base':Nat} (h:OwnSt base w a b c d e f g S fs) (hb:base'≤base):OwnSt base' w a b c d e f g S fs:=
 ⟨h.dr.mono hb,h.cs.mono hb,h.ds.mono hb,h.d_c,h.d_d,h.c_d⟩
theorem OwnSt.reads (h:OwnSt base w a b c d e f g S fs):RSt w a b c d e f g S:=⟨h.dr.reads,h.cs.reads,h.ds.reads⟩
theorem zH.form {base:Nat} {w:World} {v:Value} {l:List Dp} (h:zH base w v l):∃A c,v= .slice A l.length c:=by
 obtain⟨A,c,e,_⟩:=h.reads.form;exact⟨A,c,e⟩
end
def z1T (S:St) (w:World) (e:Ending) (w':World):Prop:=∃A0 ac0 A1 ac1 A2 ac2 A3 ac3 A4 ac4 A5 ac5 A6 ac6 fs,e= .returned (.agg #[.slice A0 S.D.fn.length ac0,.slice A1 S.D.fl.length ac1,.slice A2 S.D.nn.length ac2,.slice A3 S.D.nl.length ac3,.slice A4 S.D.ss.length ac4,.slice A5 S.cs.length ac5,.slice A6 S.ds.length ac6,.int .i64 S.fund])∧
 OwnSt w.heap.size w' (.slice A0 S.D.fn.length ac0) (.slice A1 S.D.fl.length ac1) (.slice A2 S.D.nn.length ac2) (.slice A3 S.D.nl.length ac3) (.slice A4 S.D.ss.length ac4) (.slice A5 S.cs.length ac5) (.slice A6 S.ds.length ac6) S fs∧Below w.heap.size w w'
def z2B (S:St) (b:Bool) (w:World) (e:Ending) (w':World):Prop:=∃A0 ac0 A1 ac1 A2 ac2 A3 ac3 A4 ac4 A5 ac5 A6 ac6 fs,e= .returned (.tuple #[.agg #[.slice A0 S.D.fn.length ac0,.slice A1 S.D.fl.length ac1,.slice A2 S.D.nn.length ac2,.slice A3 S.D.nl.length ac3,.slice A4 S.D.ss.length ac4,.slice A5 S.cs.length ac5,.slice A6 S.ds.length ac6,.int .i64 S.fund],.bool b])∧
 OwnSt w.heap.size w' (.slice A0 S.D.fn.length ac0) (.slice A1 S.D.fl.length ac1) (.slice A2 S.D.nn.length ac2) (.slice A3 S.D.nl.length ac3) (.slice A4 S.D.ss.length ac4) (.slice A5 S.cs.length ac5) (.slice A6 S.ds.length ac6) S fs∧Below w.heap.size w w'
theorem yk (v0 v1 v2 v3 v4 v5 v6:Value) (S:St) (w:World) (h:RSt w v0 v1 v2 v3 v4 v5 v6 S) (hle:StLe S):
  Calls Tryz.prog 28 #[.agg #[v0,v1,v2,v3,v4,v5,v6,.int .i64 S.fund]] w (z1T S w):=by
 have hdr:=h.dr;have hcs:=h.cs;have hds:=h.ds
 go_enter Tryz.func28,Tryz.ntmps28
 go_wp2_with fail
 refine(z0F _ _ _ _ _ S.D _ (hdr.below (by exact bel_)) hle.D).mono ?_
 rintro e w1 ⟨A0,ac0,A1,ac1,A2,ac2,A3,ac3,A4,ac4,fs,rfl,ho1,hb1⟩;have hz1:=hb1.size;simp at hz1
 have hX1:Blk w1 w.heap.size 61 #[v0,v1,v2,v3,v4,v5,v6,.int .i64 S.fund]:=Blk.below (((Blk.newAt rfl).alloc _).alloc _) hb1 sz_;have hR1:Blk w1 (w.heap.size+1) 34 #[.slice none 0 0,.slice none 0 0,.slice none 0 0,.slice none 0 0,.slice none 0 0,.slice none 0 0,.slice none 0 0,.int .i64 0]:=Blk.below ((Blk.newAt (by simp)).alloc _) hb1 sz_;have hS1:Blk w1 (w.heap.size+1+1) 34 #[.slice none 0 0,.slice none 0 0,.slice none 0 0,.slice none 0 0,.slice none 0 0,.slice none 0 0,.slice none 0 0,.int .i64 0]:=Blk.below (Blk.newAt (by simp)) hb1 sz_;have hO1:OwnD (w.heap.size+1+1+1) w1 (.slice A0 S.D.fn.length ac0) (.slice A1 S.D.fl.length ac1) (.slice A2 S.D.nn.length ac2) (.slice A3 S.D.nl.length ac3) (.slice A4 S.D.ss.length ac4) S.D fs:=by simpa using ho1
 have hbw1:Below w.heap.size w w1:=by exact bel_
 clear hb1 ho1;obtain⟨x_0,x_1,x_2,x_3,x_4,x_5,x_6,x_7,x_f0,x_f1,x_f2,x_f3,x_f4,x_f5,x_f6,x_f7⟩:=hX1.b8;obtain⟨s_0,s_1,s_2,s_3,s_4,s_5,s_6,s_7,s_f0,s_f1,s_f2,s_f3,s_f4,s_f5,s_f6,s_f7⟩:=hS1.b8;have hXlt:=hX1.lt;have hSlt:=hS1.lt
 go_wp2_with fail
 obtain⟨u1,hu1⟩:∃u1,u1=(((((w1.setCell ⟨w.heap.size+1+1,0,none⟩ (.slice A0 S.D.fn.length ac0)).setCell ⟨w.heap.size+1+1,1,none⟩ (.slice A1 S.D.fl.length ac1)).setCell ⟨w.heap.size+1+1,2,none⟩ (.slice A2 S.D.nn.length ac2)).setCell ⟨w.heap.size+1+1,3,none⟩ (.slice A3 S.D.nl.length ac3)).setCell ⟨w.heap.size+1+1,4,none⟩ (.slice A4 S.D.ss.length ac4)):=⟨_,rfl⟩;rw[←hu1];have hy1:u1.heap.size=w1.heap.size:=by rw[hu1];simp
 have hX1':Blk u1 w.heap.size 61 #[v0,v1,v2,v3,v4,v5,v6,.int .i64 S.fund]:=hu1▸(((((hX1).far (p:=⟨w.heap.size+1+1,0,none⟩) (by show _≠w.heap.size+1+1;omega) _).far (p:=⟨w.heap.size+1+1,1,none⟩) (by show _≠w.heap.size+1+1;omega) _).far (p:=⟨w.heap.size+1+1,2,none⟩) (by show _≠w.heap.size+1+1;omega) _).far (p:=⟨w.heap.size+1+1,3,none⟩) (by show _≠w.heap.size+1+1;omega) _).far (p:=⟨w.heap.size+1+1,4,none⟩) (by show _≠w.heap.size+1+1;omega) _;have hR1':Blk u1 (w.heap.size+1) 34 #[.slice none 0 0,.slice none 0 0,.slice none 0 0,.slice none 0 0,.slice none 0 0,.slice none 0 0,.slice none 0 0,.int .i64 0]:=hu1▸(((((hR1).far (p:=⟨w.heap.size+1+1,0,none⟩) (by show _≠w.heap.size+1+1;omega) _).far (p:=⟨w.heap.size+1+1,1,none⟩) (by show _≠w.heap.size+1+1;omega) _).far (p:=⟨w.heap.size+1+1,2,none⟩) (by show _≠w.heap.size+1+1;omega) _).far (p:=⟨w.heap.size+1+1,3,none⟩) (by show _≠w.heap.size+1+1;omega) _).far (p:=⟨w.heap.size+1+1,4,none⟩) (by show _≠w.heap.size+1+1;omega) _;have hS1':Blk u1 (w.heap.size+1+1) 34 #[.slice A0 S.D.fn.length ac0,.slice A1 S.D.fl.length ac1,.slice A2 S.D.nn.length ac2,.slice A3 S.D.nl.length ac3,.slice A4 S.D.ss.length ac4,.slice none 0 0,.slice none 0 0,.int .i64 0]:=hu1▸(((((hS1).set_ 0 _).set_ 1 _).set_ 2 _).set_ 3 _).set_ 4 _;have hO1':OwnD (w.heap.size+1+1+1) u1 (.slice A0 S.D.fn.length ac0) (.slice A1 S.D.fl.length ac1) (.slice A2 S.D.nn.length ac2) (.slice A3 S.D.nl.length ac3) (.slice A4 S.D.ss.length ac4) S.D fs:=hu1▸(OwnD.setLow (OwnD.setLow (OwnD.setLow (OwnD.setLow (OwnD.setLow hO1 (p:=⟨w.heap.size+1+1,0,none⟩) (Nat.lt_succ_self _) _) (p:=⟨w.heap.size+1+1,1,none⟩) (Nat.lt_succ_self _) _) (p:=⟨w.heap.size+1+1,2,none⟩) (Nat.lt_succ_self _) _) (p:=⟨w.heap.size+1+1,3,none⟩) (Nat.lt_succ_self _) _) (p:=⟨w.heap.size+1+1,4,none⟩) (Nat.lt_succ_self _) _)
 have hbv1:Below w.heap.size w u1:=hu1▸(((((hbw1).setCell (p:=⟨w.heap.size+1+1,0,none⟩) sz_ _).setCell (p:=⟨w.heap.size+1+1,1,none⟩) sz_ _).setCell (p:=⟨w.heap.size+1+1,2,none⟩) sz_ _).setCell (p:=⟨w.heap.size+1+1,3,none⟩) sz_ _).setCell (p:=⟨w.heap.size+1+1,4,none⟩) sz_ _;clear hu1 hX1 hR1 hS1 hO1 hbw1 x_0 x_1 x_2 x_3 x_4 x_5 x_6 x_7 s_0 s_1 s_2 s_3 s_4 s_5 s_6 s_7 x_f0 x_f1 x_f2 x_f3 x_f4 x_f5 x_f6 x_f7 s_f0 s_f1 s_f2 s_f3 s_f4 s_f5 s_f6 s_f7 hXlt hSlt;refine(z4E _ S.cs _ (hcs.below hbv1) hle.cs).mono ?_
 rintro e w2 ⟨q5,rfl,ho2,hb2⟩;obtain⟨A5,ac5,_,rfl⟩:∃A c,S.cs.length≤S.cs.length∧q5= .slice A S.cs.length c:=by obtain⟨A,c,e,_⟩:=ho2.reads.form;exact⟨A,c,Nat.le_refl _,e⟩
 have hz2:=hb2.size;have hX2:=hX1'.below hb2 hX1'.lt;have hR2:=hR1'.below hb2 hR1'.lt;have hS2:=hS1'.below hb2 hS1'.lt;have hO2:=hO1'.kept hb2;have hlt1:=hO1'.lt;have hbw2:=hbv1.trans (hb2.mono hbv1.size);clear hb2 hX1' hR1' hS1' hO1' hbv1;obtain⟨x_0,x_1,x_2,x_3,x_4,x_5,x_6,x_7,x_f0,x_f1,x_f2,x_f3,x_f4,x_f5,x_f6,x_f7⟩:=hX2.b8;obtain⟨s_0,s_1,s_2,s_3,s_4,s_5,s_6,s_7,s_f0,s_f1,s_f2,s_f3,s_f4,s_f5,s_f6,s_f7⟩:=hS2.b8;have hXlt:=hX2.lt;have hSlt:=hS2.lt
 go_wp2_with fail
 obtain⟨u2,hu2⟩:∃u2,u2=(w2.setCell ⟨w.heap.size+1+1,5,none⟩ (.slice A5 S.cs.length ac5)):=⟨_,rfl⟩;rw[←hu2];have hy2:u2.heap.size=w2.heap.size:=by rw[hu2];simp
 have hX2':Blk u2 w.heap.size 61 #[v0,v1,v2,v3,v4,v5,v6,.int .i64 S.fund]:=hu2▸(hX2).far (p:=⟨w.heap.size+1+1,5,none⟩) (by show _≠w.heap.size+1+1;omega) _;have hR2':Blk u2 (w.heap.size+1) 34 #[.slice none 0 0,.slice none 0 0,.slice none 0 0,.slice none 0 0,.slice none 0 0,.slice none 0 0,.slice none 0 0,.int .i64 0]:=hu2▸(hR2).far (p:=⟨w.heap.size+1+1,5,none⟩) (by show _≠w.heap.size+1+1;omega) _;have hS2':Blk u2 (w.heap.size+1+1) 34 #[.slice A0 S.D.fn.length ac0,.slice A1 S.D.fl.length ac1,.slice A2 S.D.nn.length ac2,.slice A3 S.D.nl.length ac3,.slice A4 S.D.ss.length ac4,.slice A5 S.cs.length ac5,.slice none 0 0,.int .i64 0]:=hu2▸(hS2).set_ 5 _;have hO2':OwnD (w.heap.size+1+1+1) u2 (.slice A0 S.D.fn.length ac0) (.slice A1 S.D.fl.length ac1) (.slice A2 S.D.nn.length ac2) (.slice A3 S.D.nl.length ac3) (.slice A4 S.D.ss.length ac4) S.D fs:=hu2▸(OwnD.setLow hO2 (p:=⟨w.heap.size+1+1,5,none⟩) (Nat.lt_succ_self _) _);have hN2':OwnI u1.heap.size u2 (.slice A5 S.cs.length ac5) S.cs:=hu2▸qF ho2 (S:=fun b=>b=w.heap.size+1+1) (Turns.ofGrown (qO w2 ⟨w.heap.size+1+1,5,none⟩ _) (fun k hk=>by cases hk;rfl)) (fun k hk e=>by have:=(World.ownsRow.lt ho2 k hk).1;omega);have hbv2:Below w.heap.size w u2:=hu2▸(hbw2).setCell (p:=⟨w.heap.size+1+1,5,none⟩) sz_ _;clear hu2 hX2 hR2 hS2 hO2 ho2 hbw2 x_0 x_1 x_2 x_3 x_4 x_5 x_6 x_7 s_0 s_1 s_2 s_3 s_4 s_5 s_6 s_7 x_f0 x_f1 x_f2 x_f3 x_f4 x_f5 x_f6 x_f7 s_f0 s_f1 s_f2 s_f3 s_f4 s_f5 s_f6 s_f7 hXlt hSlt
 refine(ZY _ S.ds _ (hds.below hbv2) hle.ds).mono ?_
 rintro e w3 ⟨q6,rfl,ho3,hb3⟩;obtain⟨A6,ac6,rfl⟩:=zH.form ho3;have hz3:=hb3.size;have hX3:=hX2'.below hb3 hX2'.lt;have hR3:=hR2'.below hb3 hR2'.lt;have hS3:=hS2'.below hb3 hS2'.lt;have hO3:=hO2'.kept hb3;have hN3:=hN2'.kept hb3;have hlt2:=World.ownsRow.lt hN2';have hlt3:=World.ownsRow.lt ho3;have hbw3:=hbv2.trans (hb3.mono hbv2.size);have n1:w.heap.size+1<w3.heap.size:=hR3.lt;have n2:w.heap.size+1+1<w3.heap.size:=hS3.lt;have n0:w.heap.size<w3.heap.size:=hX3.lt;have HST:Hid (OwnSt (w.heap.size+1+1+1) w3 (.slice A0 S.D.fn.length ac0) (.slice A1 S.D.fl.length ac1) (.slice A2 S.D.nn.length ac2) (.slice A3 S.D.nl.length ac3) (.slice A4 S.D.ss.length ac4) (.slice A5 S.cs.length ac5) (.slice A6 S.ds.length ac6) S fs):=Lib.hid ⟨hO3,hN3.mono (by omega),ho3.mono (by omega),fun k h1 h2=>by have:=(hlt1 k h1).2;have:=(hlt2 k h2).1;omega,fun k h1 h2=>by have:=(hlt1 k h1).2;have:=(hlt3 k h2).1;omega,fun k h1 h2=>by have:=(hlt2 k h1).2;have:=(hlt3 k h2).1;omega⟩;have HBW:=Lib.hid hbw3;clear hb3 hX2' hR2' hS2' hO2' hN2' hbv2 hO3 hN3 ho3 hlt1 hlt2 hlt3 hbw3;obtain⟨x_0,x_1,x_2,x_3,x_4,x_5,x_6,x_7,x_f0,x_f1,x_f2,x_f3,x_f4,x_f5,x_f6,x_f7⟩:=hX3.b8;obtain⟨r_0,r_1,r_2,r_3,r_4,r_5,r_6,r_7,r_f0,r_f1,r_f2,r_f3,r_f4,r_f5,r_f6,r_f7⟩:=hR3.b8;obtain⟨s_0,s_1,s_2,s_3,s_4,s_5,s_6,s_7,s_f0,s_f1,s_f2,s_f3,s_f4,s_f5,s_f6,s_f7⟩:=hS3.b8;go_wp2;refine bodyPost_ret (v:= .agg #[.slice A0 S.D.fn.length ac0,.slice A1 S.D.fl.length ac1,.slice A2 S.D.nn.length ac2,.slice A3 S.D.nl.length ac3,.slice A4 S.D.ss.length ac4,.slice A5 S.cs.length ac5,.slice A6 S.ds.length ac6,.int .i64 S.fund]) (by simp[results,Tryz.results28,go_sem,r_0,r_1,r_2,r_3,r_4,r_5,r_6,r_7,s_0,s_1,s_2,s_3,s_4,s_5,s_6,s_7,x_0,x_1,x_2,x_3,x_4,x_5,x_6,x_7,n0,n1,n2]) rfl ?_
 refine⟨A0,ac0,A1,ac1,A2,ac2,A3,ac3,A4,ac4,A5,ac5,A6,ac6,fs,rfl,?_,?_⟩
 ·refine OwnSt.mono (base:=w.heap.size+1+1+1) ?_ (by omega)
  repeat (first|(with_reducible exact HST.out)|(with_reducible refine OwnSt.setLow ?_ ?_ _))
  all_goals exact sz_
 ·have hbw3:=HBW.out
  exact bel_
theorem yn (v0 v1 v2 v3 v4 v5 v6 u0 u1 u2 u3 u4 u5 u6:Value) (S:St) (w:World) (h:RSt w v0 v1 v2 v3 v4 v5 v6 S) (g:RSt w u0 u1 u2 u3 u4 u5 u6 S):
  Calls Tryz.prog 30 #[.agg #[v0,v1,v2,v3,v4,v5,v6,.int .i64 S.fund],.agg #[u0,u1,u2,u3,u4,u5,u6,.int .i64 S.fund]] w fun e w'=>e= .returned (.bool true)∧Below w.heap.size w w':=by
 have a1:=h.dr;have b1:=g.dr
 go_enter Tryz.func30,Tryz.ntmps30
 go_wp2_with fail
 refine(z0Q _ _ _ _ _ _ _ _ _ _ S.D _ (a1.below (by exact bel_)) (b1.below (by exact bel_))).mono ?_
 rintro e w1 ⟨rfl,hb1⟩;have hz1:=hb1.size;simp at hz1
 have hX1:Blk w1 w.heap.size 34 #[v0,v1,v2,v3,v4,v5,v6,.int .i64 S.fund]:=Blk.below ((Blk.newAt rfl).alloc _) hb1 sz_;have hY1:Blk w1 (w.heap.size+1) 34 #[u0,u1,u2,u3,u4,u5,u6,.int .i64 S.fund]:=Blk.below (Blk.newAt (by simp)) hb1 sz_;have hbw1:Below w.heap.size w w1:=by exact bel_
 clear hb1;obtain⟨x_0,x_1,x_2,x_3,x_4,x_5,x_6,x_7⟩:=hX1.c8;obtain⟨y_0,y_1,y_2,y_3,y_4,y_5,y_6,y_7⟩:=hY1.c8
 go_wp2_with fail
 refine(z21 _ _ S.cs S.cs _ (h.cs.below hbw1) (g.cs.below hbw1)).mono ?_
 rw[decide_eq_true (rfl:S.cs=S.cs)];rintro e w2 ⟨rfl,hb2⟩;have hX2:=hX1.below hb2 hX1.lt;have hY2:=hY1.below hb2 hY1.lt;have hbw2:=hbw1.trans (hb2.mono hbw1.size);clear hb2 hX1 hY1 x_0 x_1 x_2 x_3 x_4 x_5 x_6 x_7 y_0 y_1 y_2 y_3 y_4 y_5 y_6 y_7;obtain⟨x_0,x_1,x_2,x_3,x_4,x_5,x_6,x_7⟩:=hX2.c8;obtain⟨y_0,y_1,y_2,y_3,y_4,y_5,y_6,y_7⟩:=hY2.c8
 go_wp2_with fail
 refine(ZI _ _ S.ds _ (h.ds.below hbw2) (g.ds.below hbw2)).mono ?_
 rintro e w3 ⟨rfl,hb3⟩;have hX3:=hX2.below hb3 hX2.lt;have hY3:=hY2.below hb3 hY2.lt;have hbw3:=hbw2.trans (hb3.mono hbw2.size);clear hb3 hX2 hY2 x_0 x_1 x_2 x_3 x_4 x_5 x_6 x_7 y_0 y_1 y_2 y_3 y_4 y_5 y_6 y_7;have HBW:=Lib.hid hbw3;clear hbw3;obtain⟨x_0,x_1,x_2,x_3,x_4,x_5,x_6,x_7⟩:=hX3.c8;obtain⟨y_0,y_1,y_2,y_3,y_4,y_5,y_6,y_7⟩:=hY3.c8;go_wp2;go_ret
 exact⟨rfl,HBW.out⟩
end Go.Proofs.YtnjcpljhmhdhkaaGreat
