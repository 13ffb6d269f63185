/- part 2 -/
import Derived.Test.YtnjcpljhmhdhkaaGreatTPk1
import Derived.Deep.AppendSrc
import Derived.Deep.AppendLies
import Derived.Deep.RegionHeld3
import Derived.Test.YtnjcpljhmhdhkaaGreatRows
import Derived.ProofKit
import Derived.OpenShut
import Derived.Lib.SmallJoins
import Derived.Carry
import Derived.Test.YtnjcpljhmhdhkaaGreatProg
import Derived.Deep.Slices
import Derived.Deep.Fields
import Derived.ChangeSame
set_option linter.unusedSimpArgs false
set_option linter.unusedVariables false
set_option maxRecDepth 100000
set_option maxHeartbeats 4000000
namespace Go.Proofs.YtnjcpljhmhdhkaaGreat
open Go.RowKit
theorem Jh (l:List (Int×Int)):∀u∈l.flatMap prc,u.oneCell'=true:=by
 intro u hu;rw[List.mem_flatMap] at hu;obtain⟨p,_,hp⟩:=hu;simp only[prc,List.mem_cons,List.mem_nil_iff,or_false] at hp
 rcases hp with rfl|rfl<;>rfl
theorem yg {P:Program} {w:World} {t ty e:TypeId} {i:TypeInfo} (ht:P.underlying t=some (.slice e)) (hi:P.info? e=some i) (A:Option Addr) (n cp c:Nat) (h:n≤cp):
  (Builtin.append_ #[t,t] ty #[.slice A n cp,.slice none 0 c]).run P w= .ok (.slice A n cp) w:=by
 simp[Builtin.append_,run_underlying ht,sizeOf,typeInfo,hi,Builtin.lenOf,h,Builtin.firstCells]
 cases A
 ·simp
 ·simp[storeCells]
theorem ku (b off j:Nat):(⟨b,off,none⟩:Addr).add j=⟨b,off+j,none⟩:=by
 unfold Addr.add
 split<;>simp_all
theorem vj {P:Program} {w:World} {t ty e:TypeId} {i:TypeInfo} {base:Nat} (ht:P.underlying t=some (.slice e)) (hi:P.info? e=some i) (hz:i.zero=some (.agg #[.int .i64 0,.int .i64 0])) (hsize:i.size=2) (hby:i.bytes=16)
  {v u:Value} {xs l:List (Int×Int)} (hown:OwnP e base w v xs) (hr:RP w u l) (hlen:xs.length+l.length≤1048576+1048576) (hbase:base≤w.heap.size):
  ∃A c w',(Builtin.append_ #[t,t] ty #[v,u]).run P w= .ok (.slice A (xs++l).length c) w'∧OwnP e base w' (.slice A (xs++l).length c) (xs++l)∧w.grownBy w' v.ownBlock∧
   ((Value.slice A (xs++l).length c).ownBlock =v.ownBlock∨(Value.slice A (xs++l).length c).ownBlock =some w.heap.size):=by
 obtain⟨A,c,rfl,hc,hm,hcell⟩:=hr.form
 cases A with
 |none=>
  have hl:l=[]:=by
   rcases Nat.eq_zero_or_pos l.length with h|h
   ·exact List.eq_nil_of_length_eq_zero h
   ·obtain⟨b,off,h1,_⟩:=hcell h
    cases h1
  subst hl;obtain⟨A,cp,rfl⟩:=hown.form
  have hcp:xs.length≤cp:=by
   obtain⟨A',c',e1,e2,_⟩:=hown.reads.form
   cases e1;exact e2
  refine⟨A,cp,w,?_,by rw[List.append_nil];exact hown,World.grownBy.refl _ _,by rw[List.append_nil];exact .inl rfl⟩
  rw[List.append_nil];exact yg ht hi A _ cp c hcp
 |some a=>
  have hn:∀(j:Nat) (x:Value),(l.flatMap prc)[j]? =some x→w.cell? (a.add j)=some x:=by
   intro j x hx;have hj:=(List.getElem?_eq_some_iff.1 hx).1;rw[zS prc 2 (fun _=>rfl)] at hj;obtain⟨_,A',c',e1,_,_,e4⟩:=hr
   cases e1
   obtain⟨b,off,e5,_,e6⟩:=e4 (by omega)
   cases e5
   rw[ku];exact e6 j x hx
  have ho:w.ownsRow base e 2 v xs.length (xs.flatMap prc):=hown;obtain⟨v',w',h1,h2,h3,_,h5⟩:=run_append_own_at (P:=P) w base t ty e i _ 2 16 ht hi hz hsize hby rfl (by decide) v xs.length (xs.flatMap prc) ho a l.length c (l.flatMap prc) (zS prc 2 (fun _=>rfl) l) hn (Jh l) (by unfold maxLen;omega) (by omega) hbase
  have h2':OwnP e base w' v' (xs++l):=by
   unfold OwnP;rw[List.length_append,List.flatMap_append];exact h2
  obtain⟨A',c',rfl⟩:=h2'.form;exact⟨A',c',w',h1,h2',h3,h5⟩
theorem zi {P:Program} {w:World} {ops:Array Oper} {o:Oper} {a:Act} {K:Act→World→Prop} {Q:Exit→Act→World→Prop} {E:Prop} (hgd:o.guard=none) (s x:Operand) (t:TypeId)
  (ho:o.op= .call { callee:= .builtin .append,args:= #[s,x],argTypes:= #[t,t] })
  (base:Nat) (e:TypeId) (i:TypeInfo) (ht:P.underlying t=some (.slice e)) (hi:P.info? e=some i) (hz:i.zero=some (.agg #[.int .i64 0,.int .i64 0])) (hsize:i.size=2) (hby:i.bytes=16)
  (v u:Value) (xs l:List (Int×Int)) (hs:a.eval s=v) (hx:a.eval x=u) (hown:OwnP e base w v xs) (hr:RP w u l) (hlen:xs.length+l.length≤1048576+1048576) (hbase:base≤w.heap.size)
  (h:∀A c w',OwnP e base w' (.slice A (xs++l).length c) (xs++l)→w.grownBy w' v.ownBlock→((Value.slice A (xs++l).length c).ownBlock =v.ownBlock∨(Value.slice A (xs++l).length c).ownBlock =some w.heap.size)→K (a.put o.dst (.slice A (xs++l).length c)) w'):
  if Region.wanted o (yielded ops a.tmps)=true then Oper.wp P o a w K Q else E:=by
 have hw:Region.wanted o (yielded ops a.tmps)=true:=by simp[Region.wanted,hgd]
 rw[if_pos hw];obtain⟨A,c,w',hrun,h2,h3,h4⟩:=vj (ty:=o.type) ht hi hz hsize hby hown hr hlen hbase;unfold Oper.wp execOp;simp only[ho,resolve,invoke,builtin,Sem.run_bind,Sem.run_pure,Result.andThen_ok,List.map_toArray,List.map_cons,List.map_nil,hs,hx,hrun]
 exact h A c w' h2 h3 h4
theorem zg {P:Program} {w:World} {ops:Array Oper} {rest:List Oper} {o:Oper} {a:Act} {Q:Exit→Act→World→Prop} (hgd:o.guard=none) (s x:Operand) (t:TypeId)
  (ho:o.op= .call { callee:= .builtin .append,args:= #[s,x],argTypes:= #[t,t] })
  (base:Nat) (e:TypeId) (i:TypeInfo) (ht:P.underlying t=some (.slice e)) (hi:P.info? e=some i) (hz:i.zero=some (.agg #[.int .i64 0,.int .i64 0])) (hsize:i.size=2) (hby:i.bytes=16)
  (v u:Value) (xs l:List (Int×Int)) (hs:a.eval s=v) (hx:a.eval x=u) (hown:OwnP e base w v xs) (hr:RP w u l) (hlen:xs.length+l.length≤1048576+1048576) (hbase:base≤w.heap.size)
  (h:∀A c w',OwnP e base w' (.slice A (xs++l).length c) (xs++l)→w.grownBy w' v.ownBlock→((Value.slice A (xs++l).length c).ownBlock =v.ownBlock∨(Value.slice A (xs++l).length c).ownBlock =some w.heap.size)→wpList P ops Q rest (a.put o.dst (.slice A (xs++l).length c)) w'):
  wpList P ops Q (o::rest) a w:=
 wpList_plain hgd fun K hK=>by
  obtain⟨A,c,w',hrun,h2,h3,h4⟩:=vj (ty:=o.type) ht hi hz hsize hby hown hr hlen hbase;unfold Oper.wp execOp;simp only[ho,resolve,invoke,builtin,Sem.run_bind,Sem.run_pure,Result.andThen_ok,List.map_toArray,List.map_cons,List.map_nil,hs,hx,hrun]
  exact hK _ _ (h A c w' h2 h3 h4)
theorem OwnP.made {t:TypeId} {base:Nat} {w:World} {g:Nat} (hg:g=w.heap.size) (hb:base≤w.heap.size):OwnP t base (w.alloc (.cells #[] t)) (.slice (some ⟨g,0,none⟩) 0 0) []:=by
 subst hg;exact World.ownsRow_made _ _ _ hb (by simp) (by simp[maxLen])
theorem vw {w w':World} (h:w.grownBy w' (Value.slice none 0 0).ownBlock):Below w.heap.size w w':=(Below.refl _ _).grown h (Nat.le_refl _) (by intro k hk;cases hk)
theorem qf (vn vl:Value) (ns ls:List (Int×Int)) (w:World) (hn:RP w vn ns) (hl:RP w vl ls) (h1:ns.length≤1048576) (h2:ls.length≤1048576):
  Calls Tryz.prog 81 #[.agg #[vn,vl]] w (RetW ns ls w):=by
 obtain⟨i0,hi,iz0,iz1,iz2⟩:=info_parts kg;obtain⟨j0,hj,jz0,jz1,jz2⟩:=info_parts qC;have hlt2:w.heap.size<w.heap.size+1+1:=by omega
 go_enter Tryz.func81,Tryz.ntmps81
 go_wp2_with fail
 go_region_held3 (fun w'=>w'.cell? ⟨w.heap.size,0,none⟩=some vn∧w'.cell? ⟨w.heap.size,1,none⟩=some vl)
  (go_keep)
  (first|(refine zi rfl _ _ _ rfl (w.heap.size+1+1) 106 i0 Tryz.underlying24 hi iz0 iz1 iz2 (.slice none 0 0) vn [] ns rfl rfl (OwnP.nil _ _ _) (RP.below hn (by exact bel_)) (by simp;omega) sz_ ?_;intro A1 c1 w1 ho1 hg1 ha1;(have hb1:=vw hg1);(have HA1:=Lib.hid ha1);(have HO1:=Lib.hid ho1);clear hg1 ha1 ho1;(first|(with_reducible have hcf1:=z8 hb1)|have hcf1:=bcell hb1);obtain⟨hc1,hf1⟩:=hcf1;have hz1:=hb1.size;(try simp at hz1);(try have hp1_0:=p0_ w w1);(try have hp1_1:=p1_ w w1);(try have hp1_2:=p2_ w w1);(try have hp1_3:=p3_ w w1))|(refine zi rfl _ _ _ rfl (w.heap.size+1+1) 108 j0 Tryz.underlying25 hj jz0 jz1 jz2 (.slice none 0 0) vl [] ls rfl rfl (OwnP.nil _ _ _) (RP.below hl (by exact bel_)) (by simp;omega) sz_ ?_;intro A2 c2 w2 ho2 hg2 ha2;(have hb2:=vw hg2);(have HA2:=Lib.hid ha2);(have HO2:=Lib.hid ho2);clear hg2 ha2 ho2;(first|(with_reducible have hcf2:=z8 hb2)|have hcf2:=bcell hb2);obtain⟨hc2,hf2⟩:=hcf2;have hz2:=hb2.size;(try simp at hz2);(try have hp2_0:=p0_ w w2);(try have hp2_1:=p1_ w w2);(try have hp2_2:=p2_ w w2);(try have hp2_3:=p3_ w w2)))
 have ho1:OwnP 106 (w.heap.size+1+1) w1 (.slice A1 ns.length c1) ns:=HO1.out;have ho2:OwnP 108 (w.heap.size+1+1) w2 (.slice A2 ls.length c2) ls:=HO2.out
 have hap:Hid (∀k,(Value.slice A1 ns.length c1).ownBlock =some k→(Value.slice A2 ls.length c2).ownBlock =some k→False):=Lib.hid (fun k h1 h2=>by
  have h3:=(ho1.lt k h1).2
  rcases HA2.out with h|h
  ·have h':(Value.slice A2 ls.length c2).ownBlock =none:=h
   rw[h'] at h2;cases h2
  ·have h':(Value.slice A2 ls.length c2).ownBlock =some w1.heap.size:=h
   rw[h'] at h2;cases h2;omega)
 have ho1':=ho1.kept hb2;have o1:=Lib.hid (((ho1'.setLow (p:=⟨w.heap.size+1,0,none⟩) sz_ (.slice A1 ns.length c1)).setLow (p:=⟨w.heap.size+1,1,none⟩) sz_ (.slice A2 ls.length c2)).mono (show w.heap.size≤_ by omega));have o2:=Lib.hid (((ho2.setLow (p:=⟨w.heap.size+1,0,none⟩) sz_ (.slice A1 ns.length c1)).setLow (p:=⟨w.heap.size+1,1,none⟩) sz_ (.slice A2 ls.length c2)).mono (show w.heap.size≤_ by omega));clear ho1 ho2 ho1' HO1 HO2 HA1 HA2;go_wp2;exact bodyPost_ret (v:= .agg #[.slice A1 ns.length c1,.slice A2 ls.length c2]) (by simp[results,Tryz.results81,go_sem,hp1_0,hp1_1,hp2_0,hp2_1,hc2,hc1]) rfl ⟨_,_,_,_,rfl,⟨o1.out,o2.out,hap.out⟩,by exact bel_⟩
theorem jj {w w':World} {g B:Nat} (h:w.grownBy w' (some g)) (hB:B≤w.heap.size) (hg:B≤g):Below B w w':=(Below.refl _ _).grown h hB (fun k hk=>by cases hk;exact hg)
theorem qg (vn vl:Value) (ns ls:List (Int×Int)) (w:World) (hn:RP w vn ns) (hl:RP w vl ls) (h1:ns.length≤1048576) (h2:ls.length≤1048576):
  Calls Tryz.prog 110 #[.agg #[vn,vl]] w (RetW ns ls w):=by
 obtain⟨i0,hi,iz0,iz1,iz2⟩:=info_parts kg;obtain⟨j0,hj,jz0,jz1,jz2⟩:=info_parts qC;have hlt2:w.heap.size<w.heap.size+1+1:=by omega
 have hlt3:w.heap.size<w.heap.size+1+1+1:=by omega
 go_enter Tryz.func110,Tryz.ntmps110
 go_wp2_with fail
 go_region_held3 (fun w'=>w'.cell? ⟨w.heap.size,0,none⟩=some vn∧w'.cell? ⟨w.heap.size,1,none⟩=some vl)
  (go_keep)
  (first|(refine zi rfl _ _ _ rfl (w.heap.size+1+1) 106 i0 Tryz.underlying24 hi iz0 iz1 iz2 (.slice (some ⟨w.heap.size+1+1,0,none⟩) 0 0) vn [] ns rfl rfl (OwnP.drew (OwnP.made (by simp) sz_)) (RP.below hn (by exact bel_)) (by simp;omega) sz_ ?_;intro A1 c1 w1 ho1 hg1 ha1;(have hb1:=jj (B:=w.heap.size+1+1) hg1 sz_ sz_);(have hc1:=fun (b o:Nat) (h:b<w.heap.size+1+1)=>hb1.cell (p:=⟨b,o,none⟩) h);(have hf1:=fun (b o:Nat) (h:b<w.heap.size+1+1)=>hb1.frozen (p:=⟨b,o,none⟩) h);(have hz1:=hg1.size);(try simp at hz1);(have hp1_0:w.heap.size<w1.heap.size:=by omega);(have hp1_1:w.heap.size+1<w1.heap.size:=by omega);(have hbw1:Below w.heap.size w w1:=by refine Below.trans ?_ (hb1.mono ?_)<;>first|(exact bel_)|omega);(have HA1:=Lib.hid ha1);(have HO1:=Lib.hid ho1);(have HG1:=Lib.hid hg1);clear hg1 ha1 ho1)|((refine zi rfl _ _ _ rfl (w.heap.size+1+1) 106 i0 Tryz.underlying24 hi iz0 iz1 iz2 (.slice (some ⟨w.heap.size+1+1,0,none⟩) 0 0) vn [] ns rfl rfl (OwnP.drew (OwnP.alloc (OwnP.made (by simp) sz_) _)) (RP.below hn (by exact bel_)) (by simp;omega) sz_ ?_);intro A1 c1 w1 ho1 hg1 ha1;(have hb1:=jj (B:=w.heap.size+1+1) hg1 sz_ sz_);(have hc1:=fun (b o:Nat) (h:b<w.heap.size+1+1)=>hb1.cell (p:=⟨b,o,none⟩) h);(have hf1:=fun (b o:Nat) (h:b<w.heap.size+1+1)=>hb1.frozen (p:=⟨b,o,none⟩) h);(have hz1:=hg1.size);(try simp at hz1);(have hp1_0:w.heap.size<w1.heap.size:=by omega);(have hp1_1:w.heap.size+1<w1.heap.size:=by omega);(have hbw1:Below w.heap.size w w1:=by refine Below.trans ?_ (hb1.mono ?_)<;>first|(exact bel_)|omega);(have HA1:=Lib.hid ha1);(have HO1:=Lib.hid ho1);(have HL1:=Lib.hid ((OwnP.drew (OwnP.made (t:=108) (base:=w.heap.size+1+1) (g:=w.heap.size+1+1+1) (by simp) sz_)).apart hg1 (by intro k h h';simp[Value.ownBlock] at h h';omega)));clear hg1 ha1 ho1)|((refine zi rfl _ _ _ rfl (w.heap.size+1+1) 106 i0 Tryz.underlying24 hi iz0 iz1 iz2 (.slice (some ⟨w.heap.size+1+1+1,0,none⟩) 0 0) vn [] ns rfl rfl (OwnP.drew (OwnP.made (by simp) sz_)) (RP.below hn (by exact bel_)) (by simp;omega) sz_ ?_);intro A1 c1 w1 ho1 hg1 ha1;(have hb1:=jj (B:=w.heap.size+1+1) hg1 sz_ sz_);(have hc1:=fun (b o:Nat) (h:b<w.heap.size+1+1)=>hb1.cell (p:=⟨b,o,none⟩) h);(have hf1:=fun (b o:Nat) (h:b<w.heap.size+1+1)=>hb1.frozen (p:=⟨b,o,none⟩) h);(have hz1:=hg1.size);(try simp at hz1);(have hp1_0:w.heap.size<w1.heap.size:=by omega);(have hp1_1:w.heap.size+1<w1.heap.size:=by omega);(have hbw1:Below w.heap.size w w1:=by refine Below.trans ?_ (hb1.mono ?_)<;>first|(exact bel_)|omega);(have HA1:=Lib.hid ha1);(have HO1:=Lib.hid ho1);(have HL1:=Lib.hid ((OwnP.drew (OwnP.alloc (OwnP.made (t:=108) (base:=w.heap.size+1+1) (g:=w.heap.size+1+1) (by simp) sz_) _)).apart hg1 (by intro k h h';simp[Value.ownBlock] at h h';omega)));clear hg1 ha1 ho1)|(refine zi rfl _ _ _ rfl (w.heap.size+1+1) 108 j0 Tryz.underlying25 hj jz0 jz1 jz2 (.slice (some ⟨w.heap.size+1+1+1,0,none⟩) 0 0) vl [] ls rfl rfl HL1.out (RP.below hl (by exact bel_)) (by simp;omega) sz_ ?_;intro A2 c2 w2 ho2 hg2 ha2;(have hb2:=jj (B:=w.heap.size+1+1) hg2 sz_ sz_);(have hc2:=fun (b o:Nat) (h:b<w.heap.size+1+1)=>hb2.cell (p:=⟨b,o,none⟩) h);(have hf2:=fun (b o:Nat) (h:b<w.heap.size+1+1)=>hb2.frozen (p:=⟨b,o,none⟩) h);(have hz2:=hg2.size);(try simp at hz2);(have hp2_0:w.heap.size<w2.heap.size:=by omega);(have hp2_1:w.heap.size+1<w2.heap.size:=by omega);(have hbw2:Below w.heap.size w w2:=by refine Below.trans ?_ (hb2.mono ?_)<;>first|(exact bel_)|omega);(have HA2:=Lib.hid ha2);(have HO2:=Lib.hid ho2);(have HG2:=Lib.hid hg2);clear hg2 ha2 ho2)|(refine zi rfl _ _ _ rfl (w.heap.size+1+1) 108 j0 Tryz.underlying25 hj jz0 jz1 jz2 (.slice (some ⟨w.heap.size+1+1,0,none⟩) 0 0) vl [] ls rfl rfl HL1.out (RP.below hl (by exact bel_)) (by simp;omega) sz_ ?_;intro A2 c2 w2 ho2 hg2 ha2;(have hb2:=jj (B:=w.heap.size+1+1) hg2 sz_ sz_);(have hc2:=fun (b o:Nat) (h:b<w.heap.size+1+1)=>hb2.cell (p:=⟨b,o,none⟩) h);(have hf2:=fun (b o:Nat) (h:b<w.heap.size+1+1)=>hb2.frozen (p:=⟨b,o,none⟩) h);(have hz2:=hg2.size);(try simp at hz2);(have hp2_0:w.heap.size<w2.heap.size:=by omega);(have hp2_1:w.heap.size+1<w2.heap.size:=by omega);(have hbw2:Below w.heap.size w w2:=by refine Below.trans ?_ (hb2.mono ?_)<;>first|(exact bel_)|omega);(have HA2:=Lib.hid ha2);(have HO2:=Lib.hid ho2);(have HG2:=Lib.hid hg2);clear hg2 ha2 ho2)|(refine zi rfl _ _ _ rfl (w.heap.size+1+1) 108 j0 Tryz.underlying25 hj jz0 jz1 jz2 (.slice (some ⟨w1.heap.size,0,none⟩) 0 0) vl [] ls rfl rfl (OwnP.made rfl sz_) (RP.below hl (by exact bel_)) (by simp;omega) sz_ ?_;intro A2 c2 w2 ho2 hg2 ha2;(have hb2:=jj (B:=w.heap.size+1+1) hg2 sz_ sz_);(have hc2:=fun (b o:Nat) (h:b<w.heap.size+1+1)=>hb2.cell (p:=⟨b,o,none⟩) h);(have hf2:=fun (b o:Nat) (h:b<w.heap.size+1+1)=>hb2.frozen (p:=⟨b,o,none⟩) h);(have hz2:=hg2.size);(try simp at hz2);(have hp2_0:w.heap.size<w2.heap.size:=by omega);(have hp2_1:w.heap.size+1<w2.heap.size:=by omega);(have hbw2:Below w.heap.size w w2:=by refine Below.trans ?_ (hb2.mono ?_)<;>first|(exact bel_)|omega);(have HA2:=Lib.hid ha2);(have HO2:=Lib.hid ho2);(have HG2:=Lib.hid hg2);clear hg2 ha2 ho2))
 all_goals
  have ho1:OwnP 106 (w.heap.size+1+1) w1 (.slice A1 ns.length c1) ns:=HO1.out;have ho2:OwnP 108 (w.heap.size+1+1) w2 (.slice A2 ls.length c2) ls:=HO2.out
  have hap:Hid (∀k,(Value.slice A1 ns.length c1).ownBlock =some k→(Value.slice A2 ls.length c2).ownBlock =some k→False):=Lib.hid (fun k e1 e2=>by
   have hk:=(ho1.lt k e1).2
   rcases HA1.out with a|a<;>rcases HA2.out with b|b
   all_goals
    have a':=e1.symm.trans a;have b':=e2.symm.trans b;simp[Value.ownBlock] at a' b'
    omega)
  have ho1':OwnP 106 (w.heap.size+1+1) w2 (.slice A1 ns.length c1) ns:=by
   first
    |(refine OwnP.apart ho1 HG2.out ?_
      intro k e1 e2;have hk:=(ho1.lt k e1).2
      rcases HA1.out with a|a
      all_goals
       have a':=e1.symm.trans a;simp[Value.ownBlock] at a' e2
       omega)
    |(refine OwnP.apart (ho1.alloc _) HG2.out ?_
      intro k e1 e2;have hk:=(ho1.lt k e1).2
      rcases HA1.out with a|a
      all_goals
       have a':=e1.symm.trans a;simp[Value.ownBlock] at a' e2
       omega)
  have o1:=Lib.hid (((ho1'.setLow (p:=⟨w.heap.size+1,0,none⟩) sz_ (.slice A1 ns.length c1)).setLow (p:=⟨w.heap.size+1,1,none⟩) sz_ (.slice A2 ls.length c2)).mono (show w.heap.size≤_ by omega));have o2:=Lib.hid (((ho2.setLow (p:=⟨w.heap.size+1,0,none⟩) sz_ (.slice A1 ns.length c1)).setLow (p:=⟨w.heap.size+1,1,none⟩) sz_ (.slice A2 ls.length c2)).mono (show w.heap.size≤_ by omega));have HB:Hid (Below w.heap.size w ((w2.setCell ⟨w.heap.size+1,0,none⟩ (.slice A1 ns.length c1)).setCell ⟨w.heap.size+1,1,none⟩ (.slice A2 ls.length c2))):=Lib.hid ((hbw2.setCell sz_ _).setCell sz_ _);clear ho1 ho2 ho1' HO1 HO2 HA1 HA2 HG2 hb1 hb2 hbw1 hbw2;go_wp2;exact bodyPost_ret (v:= .agg #[.slice A1 ns.length c1,.slice A2 ls.length c2]) (by simp[results,Tryz.results110,go_sem,hp1_0,hp1_1,hp2_0,hp2_1,hc2,hc1]) rfl ⟨_,_,_,_,rfl,⟨o1.out,o2.out,hap.out⟩,HB.out⟩
open Go.ChangeShapes Go.WideShapes Go.ChangeAt Go.RowKit
theorem ownK:ownKnob Tryz.prog.godebug=none:=by kernel_rfl
theorem z68:laidOutB Tryz.prog=true:=by kernel_rfl
theorem z5T:mapsRowed Tryz.prog=true:=by kernel_rfl
def kv:Char:=Char.ofNat 32
def z25:List (List Char)→List Char
 | []=> []
 | [w]=>w
 |w::v::r=>w++kv::z25 (v::r)
theorem JM:∀(w:List Char),(w.all fun c=>c != kv)=true→wordsSigns w=[w]
 | [],_=>rfl
 |c::w,h=>by
  simp only[List.all_cons,Bool.and_eq_true] at h
  have ih:=JM w h.2;have hc:c≠kv:=by simpa using h.1
  unfold wordsSigns
  split
  ·rename_i heq;cases heq
  ·rename_i heq;injection heq with h1 _;exact absurd h1 hc
  ·rename_i heq;injection heq with h1 h2;subst h1 h2;rw[ih]
theorem Zg:∀(w r:List Char),(w.all fun c=>c != kv)=true→wordsSigns (w++kv::r)=w::wordsSigns r
 | [],r,_=>rfl
 |c::w,r,h=>by
  simp only[List.all_cons,Bool.and_eq_true] at h
  have ih:=Zg w r h.2;have hc:c≠kv:=by simpa using h.1
  rw[List.cons_append,wordsSigns.eq_def]
  split
  ·rename_i heq;cases heq
  ·rename_i heq;injection heq with h1 _;exact absurd h1 hc
  ·rename_i heq;injection heq with h1 h2;subst h1 h2;rw[ih]
theorem ZT:∀(ws:List (List Char)),ws≠ []→(ws.all fun w=>w.all fun c=>c != kv)=true→wordsSigns (z25 ws)=ws
 | [],h,_=>absurd rfl h
 | [w],_,h=>by
  simp only[List.all_cons,List.all_nil,Bool.and_true] at h
  exact JM w h
 |w::v::r,_,h=>by
  rw[List.all_cons,Bool.and_eq_true] at h
  show wordsSigns (w++kv::z25 (v::r))=_
  rw[Zg w _ h.1,ZT (v::r) (by simp) h.2]
def xY:List (List Char):=
 [[104,97,114,110,101,115,115],
  [98,54,97,101,99,48,57,97,48,57,100,99,50,51,56,54,52,102,52,57,99,99,52,54,49,97,56,52,51,48,50,57,98,100,102,99,48,49,48,51,56,49,54,57,48,50,99,50,49,56,101,49,101,55,55,49,98,48,57,55,51,50,97,52],
  [99,117,116],
  [97,116],
  [108,111,111,112,46,101,120,97,109,112,108,101,47,103,48,51,51,48,51,47,108,97,119,115,46,70,110,84,111,112],
  [108,111,111,112,46,101,120,97,109,112,108,101,47,103,48,51,51,48,51,47,108,97,119,115,46,70,110,69,120,97,99,116,83,119,97,112,67,111,108,111,114,115],
  [108,111,111,112,46,101,120,97,109,112,108,101,47,103,48,51,51,48,51,47,108,97,119,115,46,70,110,69,120,97,99,116,67,111,108,111,114,65,108,108],
  [108,111,111,112,46,101,120,97,109,112,108,101,47,103,48,51,51,48,51,47,108,97,119,115,46,70,110,83,116,117,100,105,111,115],
  [108,111,111,112,46,101,120,97,109,112,108,101,47,103,48,51,51,48,51,47,108,97,119,115,46,70,110,69,120,97,99,116,83,116,111,114,101,80,97,110,101],
  [108,111,111,112,46,101,120,97,109,112,108,101,47,103,48,51,51,48,51,47,108,97,119,115,46,70,110,82,101,112,108,97,121,115],
  [108,111,111,112,46,101,120,97,109,112,108,101,47,103,48,51,51,48,51,47,108,97,119,115,46,70,110,83,99,101,110,97,114,105,111,115],
  [108,111,111,112,46,101,120,97,109,112,108,101,47,103,48,51,51,48,51,47,108,97,119,115,46,70,110,69,120,97,99,116,73,115,82,101,112,108,97,121],
  [108,111,111,112,46,101,120,97,109,112,108,101,47,103,48,51,51,48,51,47,108,97,119,115,46,70,110,69,120,97,99,116,68,111,65,99,116],
  [108,111,111,112,46,101,120,97,109,112,108,101,47,103,48,51,51,48,51,47,108,97,119,115,46,70,110,69,120,97,99,116,82,117,110,65,99,116,115]].map fun w=>w.map Char.ofNat
theorem z62:wordsSigns Tryz.prog.initOrder.toList=xY:=by
 have h:Tryz.prog.initOrder=String.ofList (z25 xY):=by kernel_rfl
 rw[h,String.toList_ofList];exact ZT xY (by decide) (by kernel_rfl)
theorem z30:behindMainWord (wordsSigns Tryz.prog.initOrder.toList)=behindMainWord xY:=by rw[z62]
theorem cutW:behindMainWord xY="cut".toList ::xY.drop 3:=by kernel_rfl
theorem z5s {P:Program} {r:List (List Char)} (h:behindMainWord (wordsSigns P.initOrder.toList)="cut".toList ::r):P.make=some .cut :=by
 unfold Program.make;rw[h]
 show(if _ then _ else _)=_
 rw[if_neg (by decide),if_pos (by simp)]
theorem z3K {P:Program} {r:List (List Char)} (h:behindMainWord (wordsSigns P.initOrder.toList)="cut".toList ::r) (hs:stripLifts liftWords ("cut".toList ::r)=([],"cut".toList ::r))
  (hd:P.doorFits []=true) (hl:P.laysLater=false) (hb:P.bearsReflect=false):P.mayEnter=true:=by
 unfold Program.mayEnter;rw[h]
 show(_||_||_)=true
 rw[hs,hd,hl,hb];simp only[Bool.or_eq_true]
 exact .inr (by simp)
theorem z3M {P:Program} {r:List (List Char)} (h:behindMainWord (wordsSigns P.initOrder.toList)="cut".toList ::r) (hs:stripLifts liftWords ("cut".toList ::r)=([],"cut".toList ::r)):P.liftsFinal=false:=by
 unfold Program.liftsFinal Program.headLifts;rw[h,hs];have e:("cut".toList =="carried".toList)=false:=by decide
 simp[e]
theorem cutK:behindMainWord (wordsSigns Tryz.prog.initOrder.toList)="cut".toList ::xY.drop 3:=z30.trans cutW
theorem z49:stripLifts liftWords ("cut".toList ::xY.drop 3)=([],"cut".toList ::xY.drop 3):=by kernel_rfl
theorem z61:Tryz.prog.doorFits []=true:=by kernel_rfl
theorem z5R:Tryz.prog.laysLater=false:=by kernel_rfl
theorem z3H:Tryz.prog.bearsReflect=false:=by kernel_rfl
theorem z60:Tryz.prog.mayEnter=true:=z3K cutK z49 z61 z5R z3H
theorem z69:Tryz.prog.make=some .cut :=z5s cutK
theorem z5O:Tryz.prog.liftsFinal=false:=z3M cutK z49
theorem z6b {c:OpenClaim} (h:c.lifted=false):(c.lifted==Tryz.prog.liftsFinal)=true:=by rw[h,z5O];rfl
theorem z6a {c:OpenClaim} (h:c.make= .cut):(Tryz.prog.make==some c.make)=true:=by rw[z69,h];rfl
section
variable {H:Type} {enc:TypeId×Value→H} {P:Program}
theorem Jq {ts:List TypeId} (hl:laidOutB P=true) {W W':World} (hb:Below W.heap.size W W') {sp:Nat→Bool}:
  ∀ {vs:List Value} {ds:List (DataW H)} {ps:List MemPlace},(∀t∈ts,P.readableRec t=true∧t<P.types.size)→
   DataW.TrodAll enc P W 0 (fun _=>true) true ts vs ds ps→(∀x∈ps,x.block<W.heap.size)→(∀x∈ps,sp x.block=true)→DataW.TrodAll enc P W' 0 sp true ts vs ds ps:=by
 induction ts with
 |nil=>
  intro vs ds ps _ h _ _;obtain⟨rfl,rfl,rfl⟩:=trodAll_nil h;exact trodAll_mk0
 |cons t ts ih=>
  intro vs ds ps hr h hlt hsp;obtain⟨v,vs',d,ds',p,q,hargs,rfl,rfl,hd,hrest⟩:=trodAll_cons h;subst hargs;obtain⟨h1,h2⟩:=hr t (by simp);refine trodAll_cons_mk ?_ (ih (fun t' ht'=>hr t' (by simp[ht'])) hrest (fun x hx=>hlt x (by simp[hx])) (fun x hx=>hsp x (by simp[hx])))
  exact WideElems.Trod_stays hl h1 h2 hd (fun x hx=>hb.same (hlt x (by simp[hx]))) (fun x hx=>hsp x (by simp[hx]))
theorem Jx {f:Func} {s:ChangeSpec} {apart fresh handsOn again:Bool} {W W':World} {args:Array Value} {v:Value} {ds gs:List (DataW H)} {before pa pv:List MemPlace}
  (hW:DataW.Whole enc P f.params.toList s.vars apart W args.toList ds gs before)
  (hres:∀(b:Nat) (sp:Nat→Bool) (hd:Bool),DataW.TrodAll enc P W' b sp hd f.resultTypes.toList (v.resultList f.resultTypes.size) (s.fn H (ds++gs)).results [])
  (hargs:∀sp:Nat→Bool,(∀p∈before,sp p.block=true)→DataW.TrodAll enc P W' 0 sp true f.params.toList args.toList (s.fn H (ds++gs)).args pa)
  (hvars:∀sp:Nat→Bool,(∀p∈before,sp p.block=true)→DataW.TrodVars enc P W' sp s.vars (s.fn H (ds++gs)).vars pv)
  (hps:before=pa++pv) (hb:Below W.heap.size W W')
  (hok:∀(j:Nat) (t:TypeId) (r:Value),f.resultTypes[j]? =some t→(v.resultList f.resultTypes.size)[j]? =some r→Value.okWide P W' .any 0 t r):
  s.post enc P f apart fresh handsOn again W args v W':=by
 have hlt:∀p∈before,p.block<W.heap.size:=fun p hp=>hW.lt p hp
 have hold:∀p∈before,(fun b=>decide (b<W.heap.size)) p.block=true:=fun p hp=>by simpa using hlt p hp
 refine⟨ds,gs,before,[],pa,pv,hW,hres _ _ _,hargs _ hold,hvars _ hold,World.keptBut_mono (fun p hp=>⟨hp,?_⟩) (hb.frame (· ∈before)),fun _=>?_⟩
 ·rw[hps,List.mem_append] at hp
  exact Or.inr hp
 ·obtain⟨_,_,_,_,_,hz,hn⟩:=hW
  refine⟨hok,_,_,([]++pa)++pv,⟨[]++pa,pv,trodAll_append (hargs _ (fun _ _=>rfl)) (hres _ _ _),hvars _ (fun _ _=>rfl),rfl,?_,?_⟩,?_⟩
  ·intro b off hp
   have hin:MemPlace.cell b off∈before:=by rw[hps];simpa using hp
   rw[hb.frozen (hlt _ hin)];exact hz b off hin
  ·intro ha
   have:=hn ha;rw[hps] at this
   simpa using this
  ·intro p hp _
   rw[hps]
   simpa using hp
theorem z66 {f:Func} {s:ChangeSpec} {apart fresh handsOn again:Bool} {W W':World} {args:Array Value} {ds gs:List (DataW H)} {before:List MemPlace} {tb:TypeId}
  (hl:laidOutB P=true) (ht:P.underlying tb=some .bool) (hrt:f.resultTypes= #[tb]) (hv:s.vars=[])
  (hfn:∀ds:List (DataW H),ds.length=f.params.size→s.fn H (ds++[])= { results:=[.lit (.bool true)],args:=ds })
  (hp:∀t∈f.params.toList,P.readableRec t=true∧t<P.types.size)
  (hW:DataW.Whole enc P f.params.toList s.vars apart W args.toList ds gs before) (hlen:ds.length=f.params.size) (hb:Below W.heap.size W W'):s.post enc P f apart fresh handsOn again W args (.bool true) W':=by
 have hW':=hW;obtain⟨p,q,hA,hV,rfl,hfz,hnd⟩:=hW;rw[hv] at hV;obtain⟨rfl,rfl⟩:=trodVars_none hV;have hlt:∀x∈p,x.block<W.heap.size:=fun x hx=>hW'.lt x (by simp[hx])
 refine Jx (pa:=p) (pv:=[]) hW' ?_ ?_ ?_ rfl hb ?_
 ·intro b sp hd
  rw[hfn ds hlen,hrt];exact trodAll_mk1 (shut_bool ht true)
 ·intro sp hsp
  rw[hfn ds hlen];exact Jq hl hb hp hA hlt (fun x hx=>hsp x (by simp[hx]))
 ·intro sp _
  rw[hfn ds hlen,hv];exact rfl
 ·exact ok_one hrt rfl (okWide_bool_mk ht true)
end
theorem yG (n lo hi:Int) (w:World):
  Calls Tryz.prog 78 #[.int .i64 n,.int .i64 lo,.int .i64 hi] w fun e w'=>e= .returned (.bool (inB n lo hi))∧w=w':=by
 go_enter Tryz.func78,Tryz.ntmps78
 go_wp2
 all_goals go_ret
 all_goals refine⟨za ?_,rfl⟩
 all_goals first|(simp[inB, *];done)|(simp[inB, *];omega)
theorem jd (n lo hi:Int) (w:World):
  Calls Tryz.prog 138 #[.int .i64 n,.int .i64 lo,.int .i64 hi] w fun e w'=>e= .returned (.bool (inB n lo hi))∧w=w':=by
 go_enter Tryz.func138,Tryz.ntmps138
 go_wp2
 all_goals go_ret
 all_goals refine⟨za ?_,rfl⟩
 all_goals first|(simp[inB, *];done)|(simp[inB, *];omega)
open Go.ChangeShapes Go.WideShapes Go.Deep Go.RowKit
section
variable {H:Type} {enc:TypeId×Value→H} {P:Program} {w:World} {base:Nat} {spare:Nat→Bool} {held:Bool}
theorem xG {t e:TypeId} {fs:Array Field} {fuel:Nat} {cs:List Value} {x:DataW H×List MemPlace} (ht:P.underlying t=some (.slice e)) (he:P.underlying e=some (.struct fs))
  (hone:oneCellFields P fs=true) (hC:P.cellsOf e=fs.size) (h:DataW.trod enc P w base spare held fuel t cs=some x):
  (cs=[.slice none 0 0]∧x=(.nil,[]))∨
  ∃(a:Addr) (len cap m:Nat) (D:Nat→DataW H) (Pl:Nat→List MemPlace),cs=[.slice (some a) len cap]∧base≤a.block∧len≤cap∧cap≤maxLen∧m=(if spare a.block then cap else len)∧
   x=(.slice ((List.range len).map D) ((List.range (m -len)).map fun j=>D (len+j)),MemPlace.row a (m*fs.size)++(List.range m).flatMap Pl)∧
   ∀i,i<m→∃(ys:List (DataW H×List MemPlace)) (n:Nat),D i= .agg (ys.map (·.1))∧Pl i=ys.flatMap (·.2)∧ys.length=fs.size∧
    ∀(j:Nat) (f:Field),fs[j]? =some f→∃(v:Value) (y:DataW H×List MemPlace),w.cell? (a.add (i*fs.size+j))=some v∧ys[j]? =some y∧DataW.trod enc P w base spare held n f.type [v]=some y:=by
 rcases open_slice ht h with h0|⟨a,len,cap,m,n,D,Pl,hcs,hb,hl,hm,hmm,hx,hi⟩
 ·exact .inl h0
 ·refine .inr ⟨a,len,cap,m,D,Pl,hcs,hb,hl,hm,hmm,by rw[hC] at hx;exact hx,fun i him=>?_⟩
  obtain⟨cs',hc,ht'⟩:=hi i him;rw[hC] at hc;obtain⟨ys,n',hn',hy,hlen,hyl,hf⟩:=DataW.trod_struct he ht';obtain⟨_,hcl,hat⟩:=World.cells?_some hc;simp only[Prod.mk.injEq] at hy
  refine⟨ys,n',hy.1,hy.2,hyl,fun j f hj=>?_⟩
  obtain⟨ho,hk⟩:=hone_of hone j f hj;have hjl:j<fs.size:=(Array.getElem?_eq_some_iff.1 hj).1;have hcell:=hat j hjl;have hv:cs'[j]? =some (cs'[j]'(by omega)):=List.getElem?_eq_getElem (by omega);have h1:=hf j f hj;rw[ho,hk] at h1
  have hone':(cs'.drop j).take 1=[cs'[j]'(by omega)]:=by
   rw[List.drop_eq_getElem_cons (by omega)];rfl
  rw[hone'] at h1;have hys:ys[j]? =some (ys[j]'(by omega)):=List.getElem?_eq_getElem (by omega);refine⟨_,_,?_,hys,h1.trans hys⟩
  rw[←Go.Deep.add_add,hcell,hv]
theorem z2T {t e:TypeId} {fs:Array Field} {fuel:Nat} {A:Option Addr} {len cap:Nat} {x:DataW H×List MemPlace} (ht:P.underlying t=some (.slice e)) (he:P.underlying e=some (.struct fs))
  (hone:oneCellFields P fs=true) (hC:P.cellsOf e=fs.size) (hfs:0<fs.size) (hint:∀(j:Nat) (f:Field),fs[j]? =some f→P.underlying f.type=some (.int .i64))
  (h:DataW.trod enc P w base spare held fuel t [.slice A len cap]=some x):
  ∃f:Nat→Int,len≤cap∧len≤maxLen∧(0<len→∃b off,A=some ⟨b,off,none⟩∧b<w.heap.size∧∀i j,i<len→j<fs.size→w.cell? ⟨b,off+(i*fs.size+j),none⟩=some (.int .i64 (f (i*fs.size+j)))):=by
 rcases xG ht he hone hC h with ⟨hcs,_⟩|⟨a,len',cap',m,D,Pl,hcs,hb,hl,hm,hmm,hx,hi⟩
 ·simp only[List.cons.injEq,Value.slice.injEq,and_true] at hcs
  obtain⟨rfl,rfl,rfl⟩:=hcs;exact⟨fun _=>0,Nat.le_refl _,by simp[maxLen],fun h=>absurd h (by omega)⟩
 ·simp only[List.cons.injEq,Value.slice.injEq,and_true] at hcs
  obtain⟨rfl,rfl,rfl⟩:=hcs;refine⟨fun j=>intOf ((w.cell? (a.add j)).getD undef),hl,by omega,fun hpos=>?_⟩
  have hlm:len≤m:=by rw[hmm];split<;>omega
  have key:∀i j,i<len→j<fs.size→∃n:Int,w.cell? (a.add (i*fs.size+j))=some (.int .i64 n):=by
   intro i j hil hj;obtain⟨ys,n,_,_,_,hf⟩:=hi i (by omega);obtain⟨v,y,hcell,_,hty⟩:=hf j fs[j] (Array.getElem?_eq_getElem hj);obtain⟨q,e0,_,_⟩:=DataW.trod_int (hint j fs[j] (Array.getElem?_eq_getElem hj)) hty;simp at e0
   subst e0;exact⟨q,hcell⟩
  ·obtain⟨n0,hn0⟩:=key 0 0 hpos hfs
   have hsp:a.spot=none:=by
    cases hs:a.spot with
    |none=>rfl
    |some s=>
     have e0:a.add (0*fs.size+0)=a:=by simp[Addr.add]
     rw[e0] at hn0;unfold World.cell? at hn0
     split at hn0
     ·rw[hs] at hn0;simp at hn0
     ·cases hn0
   obtain⟨b,off,sp⟩:=a;simp at hsp
   subst hsp
   have hadd:∀k,(⟨b,off,none⟩:Addr).add k=⟨b,off+k,none⟩:=by
    intro k;unfold Addr.add
    split<;>simp_all
   refine⟨b,off,rfl,?_,fun i j hil hj=>?_⟩
   ·have:=World.block_lt_of_cell? w _ hn0
    rw[hadd] at this;exact this
   ·obtain⟨n,hn⟩:=key i j hil hj
    rw[hadd] at hn;rw[hn];simp only[hadd,hn]
    rfl
end
end Go.Proofs.YtnjcpljhmhdhkaaGreat
