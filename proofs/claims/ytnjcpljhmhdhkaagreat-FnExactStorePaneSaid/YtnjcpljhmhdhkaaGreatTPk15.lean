/- part 15 -/
import Derived.Test.YtnjcpljhmhdhkaaGreatTPk13
import Derived.OrdersHeld
import Derived.Deep.RegionHeld3
import Derived.StillTail
import Derived.StillTailTactics
set_option linter.unusedSimpArgs false
set_option linter.unusedVariables false
set_option maxRecDepth 100000
set_option maxHeartbeats 8000000
namespace Go.Proofs.YtnjcpljhmhdhkaaGreat
open Go.RowKit
section
variable {P:Program} {md:Region.Mode} {ops:Array Oper} {Q:Exit→Act→World→Prop} {S:World→Prop}
def anyD (P:Program) (md:Region.Mode) (ops:Array Oper) (Q:Exit→Act→World→Prop) (S:World→Prop) (n:Nat):Nat→Array Bool→Act→World→Prop
 |0,listed,a,w=>Region.ready md ops listed=[]∧Q .normal a w
 |fuel+1,listed,a,w=>
  (Region.ready md ops listed=[]→Q .normal a w)∧
  ∀i∈Region.ready md ops listed,wpOp P ops Q i (fun a' w'=>(i≠n→S w')∧anyD P md ops Q S n fuel (listed.setIfInBounds i true) a' w') a w
theorem z0k {n:Nat}:∀(fuel:Nat) (listed:Array Bool) (a:Act) (w:World),anyD P md ops Q S n fuel listed a w→wpAny P md ops Q fuel listed a w
 |0,_,_,_,h=>h
 |fuel+1,_,_,_,h=>⟨h.1,fun i hi=>wpOp_mono (fun a' w' h'=>z0k fuel _ a' w' h'.2) (h.2 i hi)⟩
theorem z4Q {n i:Nat} {oi on:Oper} {v:Value} (hi:ops[i]? =some oi) (hon:ops[n]? =some on) (hwait:∃e∈on.after,Region.binds md e=true∧e.on=i) (hsel:∀(j:Nat) (o:Oper) cs b,ops[j]? =some o→o.op≠ .select cs b)
  (hQ:∀c a w,Q (.panic c) (a.put oi.dst v) w→Q (.panic c) a w):
  ∀(fuel:Nat) (listed:Array Bool) (a:Act) (w:World),
   (∀j oj,ops[j]? =some oj→j≠i→listed.getD j true=false→(∀e∈oj.after,Region.binds md e=true→e.on≠i)→oi.apart ops oj=true)→
   i∈Region.ready md ops listed→YieldsIf P ops S oi v a→S w→
   anyD P md ops Q S n fuel (listed.setIfInBounds i true) (a.put oi.dst v) w→anyD P md ops Q S n (fuel+1) listed a w:=by
 intro fuel
 induction fuel with
 |zero=>
  intro listed a w _ hr hy hS H;refine⟨fun h=>(by rw[h] at hr;cases hr),fun j hj=>?_⟩
  by_cases hji:j=i
  ·subst hji
   exact hy.wpOp hi hS ⟨fun _=>hS,H⟩
  ·have:=ready_mono hj hji
   rw[H.1] at this
   cases this
 |succ fuel ih=>
  intro listed a w hfree hr hy hS H;refine⟨fun h=>(by rw[h] at hr;cases hr),fun j hj=>?_⟩
  by_cases hji:j=i
  ·subst hji
   exact hy.wpOp hi hS ⟨fun _=>hS,H⟩
  ·have h1:=H.2 j (ready_mono hj hji)
   obtain⟨hjun,oj,hoj,hall⟩:=mem_ready.1 hj
   have hnot:∀e∈oj.after,Region.binds md e=true→e.on≠i:=fun e he hb heq=>by
    have g1:=hall e he hb;have g0:=(mem_ready.1 hr).1;rw[heq] at g1
    rcases Nat.lt_or_ge i listed.size with h'|h'
    ·simp[h'] at g0 g1;rw[g0] at g1;cases g1
    ·simp[Array.getElem?_eq_none h'] at g1
   have hjn:j≠n:=by
    rintro rfl;rw[hon] at hoj
    cases hoj
    obtain⟨e,he,hb,heq⟩:=hwait;exact hnot e he hb heq
   have h2:=wpOp_putIf hoj (hfree j oj hoj hji hjun hnot) (fun cs b=>hsel i oi cs b hi) (fun cs b=>hsel j oj cs b hoj) hQ hy h1
   have hfree':∀k ok,ops[k]? =some ok→k≠i→(listed.setIfInBounds j true).getD k true=false→
     (∀e∈ok.after,Region.binds md e=true→e.on≠i)→oi.apart ops ok=true:=fun k ok hk hki hun hno=>by
    refine hfree k ok hk hki ?_ hno
    by_cases hjk:j=k
    ·subst hjk;exact hjun
    ·rw[getD_set_ne true hjk] at hun;exact hun
   refine wpOp_mono (fun a' w' h3=>⟨fun _=>h3.2.1 hjn,ih (listed.setIfInBounds j true) a' w' hfree' (ready_mono hr (Ne.symm hji)) h3.1 (h3.2.1 hjn) ?_⟩) h2
   rw[Array.setIfInBounds_comm _ _ hji];exact h3.2.2
theorem qI {i:Nat} {o:Oper} (h:(ops.toList.drop i).head? =some o):ops[i]? =some o:=by
 rw[List.head?_drop,Array.getElem?_toList] at h;exact h
theorem yX {n i:Nat} {oi on:Oper} {v:Value} {fuel:Nat} {listed:Array Bool} {a:Act} {w:World} (hi':(ops.toList.drop i).head? =some oi) (hon':(ops.toList.drop n).head? =some on) (hwait:(on.after.any fun e=>Region.binds md e&&e.on==i)=true)
  (hs:Region.noSelect ops=true) (hf:Region.free md ops listed i=true) (hr:(Region.ready md ops listed).contains i=true)
  (hQ:∀c a w,Q (.panic c) (a.put oi.dst v) w→Q (.panic c) a w) (hy:YieldsIf P ops S oi v a) (hS:S w)
  (h:anyD P md ops Q S n fuel (listed.setIfInBounds i true) (a.put oi.dst v) w):anyD P md ops Q S n (fuel+1) listed a w:=by
 have hi:=qI hi';have hon:=qI hon';refine z4Q hi hon ?_ (Region.noSelect_spec hs) hQ fuel listed a w (Region.free_spec hi hf) (by simpa using hr) hy hS h
 rw[Array.any_eq_true] at hwait;obtain⟨k,hk,h⟩:=hwait;rw[Bool.and_eq_true] at h;exact⟨on.after[k],Array.getElem_mem hk,h.1,by simpa using h.2⟩
theorem Zf {n i:Nat} {o:Oper} {fuel:Nat} {listed:Array Bool} {a:Act} {w:World} (ho':(ops.toList.drop i).head? =some o) (hr:Region.ready md ops listed=[i])
  (h:∀K':Act→World→Prop,(∀a w,(i≠n→S w)→((i≠n→S w)→anyD P md ops Q S n fuel (listed.setIfInBounds i true) a w)→K' a w)→if Region.wanted o (yielded ops a.tmps)=true then Oper.wp P o a w K' Q else K' (a.put o.dst undef) w):
  anyD P md ops Q S n (fuel+1) listed a w:=by
 have ho:=qI ho';refine⟨fun h0=>(by rw[hr] at h0;cases h0),fun j hj=>?_⟩
 rw[hr,List.mem_singleton] at hj;subst hj;exact wpOp_step ho (fun K' hK=>h K' (fun a w hS hW=>hK a w ⟨hS,hW hS⟩))
theorem z5P {n:Nat} {listed:Array Bool} {a:Act} {w:World} (hr:Region.ready md ops listed=[]) (h:Q .normal a w):∀fuel,anyD P md ops Q S n fuel listed a w
 |0=>⟨hr,h⟩
 |_+1=>⟨fun _=>h,by rw[hr];simp⟩
theorem z3J {id n:Nat} {a:Act} {w:World} (hm:P.follows .mixedOrders =true) (hS:S w.drew)
  (h:S w.drew→anyD P .any ops Q S n ops.size (Array.replicate ops.size false) a w.drew):(Code.region id ops true).wp P Q a w:=
 wp_region_any hm (z0k _ _ _ _ (h hS))
end
attribute [local go_sem ↓] zu zw zY zZ
def nwo (ns:List Pr) (k:Int):Nat→List Pr
 |0=> []
 |j+1=>if (j:Int)=k then nwo ns k j else nwo ns k j++[ndI ns j]
def dnI (k i:Int):Int:=if i>k then i -1 else i
def lwo (ls:List Pr) (k:Int):Nat→List Pr
 |0=> []
 |j+1=>if (ndI ls j).1≠k∧(ndI ls j).2≠k then lwo ls k j++[(dnI k (ndI ls j).1,dnI k (ndI ls j).2)] else lwo ls k j
theorem Vv (ns:List Pr) (k:Int):∀j,(nwo ns k j).length ≤j
 |0=>by simp[nwo]
 |j+1=>by
  have:=Vv ns k j;unfold nwo
  split<;>simp<;>omega
theorem z2h (ls:List Pr) (k:Int):∀j,(lwo ls k j).length ≤j
 |0=>by simp[lwo]
 |j+1=>by
  have:=z2h ls k j;unfold lwo
  split<;>simp<;>omega
theorem XP (i k:Int) (g:Nat) (w:World) (hc:w.cell? ⟨g,0,none⟩=some (.int .i64 k)) (hb: -1000000≤i∧i≤1000000):
  Calls Tryz.prog 251 #[.int .i64 i,.pointer (some ⟨g,0,none⟩)] w fun e w'=>e= .returned (.int .i64 (dnI k i))∧w=w':=by
 obtain⟨hb1,hb2⟩:=hb
 by_cases h:k<i
 ·have HR:Hid (dnI k i=i -1):=Lib.hid (by simp[dnI,h])
  go_enter Tryz.func251,Tryz.ntmps251
  go_wp2;go_ret
  exact⟨ze HR.out.symm,rfl⟩
 ·have HR:Hid (dnI k i=i):=Lib.hid (by simp[dnI,h])
  go_enter Tryz.func251,Tryz.ntmps251
  go_wp2;go_ret
  exact⟨ze HR.out.symm,rfl⟩
theorem Xb (vn vl:Value) (ns ls:List Pr) (k:Int) (w:World) (hn:RP w vn ns) (hl:RP w vl ls) (h1:ns.length≤1048576) (h2:ls.length≤1048576)
  (hbd:∀j:Nat,j<ls.length→(-1000000≤(ndI ls j).1∧(ndI ls j).1≤1000000)∧(-1000000≤(ndI ls j).2∧(ndI ls j).2≤1000000)):
  Calls Tryz.prog 219 #[.agg #[vn,vl],.int .i64 k] w (RetW (nwo ns k ns.length) (lwo ls k ls.length) w):=by
 obtain⟨An,cn,rfl,hcn,hmn,hcelln⟩:=hn.formI;obtain⟨Al,cl,rfl,hcl,hml,hcelll⟩:=hl.formI;obtain⟨i0,hi,iz0,iz1,iz2⟩:=info_parts kg;obtain⟨j0,hj,jz0,jz1,jz2⟩:=info_parts qC;unfold maxLen at hmn hml
 go_enter Tryz.func219,Tryz.ntmps219
 go_wp2
 go_loopw [15] (fun i wr=>∃j:Nat,j≤ns.length∧i= .int .i64 j∧∃A c,OwnP 106 (w.heap.size+1+1+1+1) wr (.slice A (nwo ns k j).length c) (nwo ns k j)∧
   Blk wr w.heap.size 27 #[.slice An ns.length cn,.slice Al ls.length cl]∧Blk wr (w.heap.size+1) 3 #[.int .i64 k]∧Blk wr (w.heap.size+1+1) 27 #[.slice none 0 0,.slice none 0 0]∧
   Blk wr (w.heap.size+1+1+1) 27 #[.slice A (nwo ns k j).length c,.slice none 0 0]∧Below w.heap.size w wr) (fun i _=>ns.length -(intOf i).toNat)
 case atStart=>exact⟨0,Nat.zero_le _,rfl,none,0,OwnP.nil _ _ _,(((Blk.newAt rfl).alloc _).alloc _).alloc _,((Blk.newAt (by simp)).alloc _).alloc _,(Blk.newAt (by simp)).alloc _,Blk.newAt (by simp),by exact bel_⟩
 case round=>
  obtain⟨j,hj',rfl,A,c,ho,hA,hK,hR,hO,hbl⟩:=hrel;have hsz:=hO.lt;obtain⟨a_0,a_1⟩:=hA.c2
  (have kk:=hK.cell 0);simp only[List.getElem?_toArray,List.getElem?_cons_zero] at kk
  obtain⟨o_0,o_1,o_f0,o_f1⟩:=hO.b2;have hG:=Vv ns k j
  by_cases hlt:j<ns.length
  ·obtain⟨b,off,rfl,hb,hcc⟩:=hcelln (by omega)
   obtain⟨k0,k1⟩:=hcc j hlt;have q0:=(hbl.cell (p:=⟨b,off+j*2,none⟩) hb).trans k0;have q1:=(hbl.cell (p:=⟨b,off+j*2+1,none⟩) hb).trans k1;have hi1:(0:Int)≤(j:Int):=by omega
   have hi2:(j:Int)<(ns.length:Int):=by omega
   have p0:w.heap.size<wr.heap.size:=by omega
   have p1:w.heap.size+1<wr.heap.size:=by omega
   clear k0 k1 hcc hcelln
   by_cases hjk:(j:Int)=k
   ·have HS:Hid (nwo ns k (j+1)=nwo ns k j):=Lib.hid (by simp[nwo,hjk])
    have e1:((j:Int) != k)=false:=by simp[hjk]
    have HJ:=Lib.hid hjk;clear hjk;have HB:Hid (Below w.heap.size w (wr.alloc (.cells #[.int .i64 (ndI ns j).1,.int .i64 (ndI ns j).2] 106))):=Lib.hid (by exact bel_);go_wp2;go_roundw
    case rel=>exact⟨j+1,by omega,by go_num,A,c,by rw[HS.out];exact ho.alloc _,hA.alloc _,hK.alloc _,hR.alloc _,by rw[HS.out];exact hO.alloc _,HB.out⟩
    case measure=>simp[intOf];omega
   ·have HS:Hid (nwo ns k (j+1)=nwo ns k j++[((ndI ns j).1,(ndI ns j).2)]):=Lib.hid (by simp[nwo,hjk])
    have e1:((j:Int) != k)=true:=by simp[hjk]
    have HJ:=Lib.hid hjk;clear hjk;generalize nwo ns k j=G at*;generalize (ndI ns j).1=X at*;generalize (ndI ns j).2=Y at*;have hrow:∀b,(Value.slice A G.length c).ownBlock =some b→w.heap.size+1+1+1+1≤b∧b<wr.heap.size:=fun b hb=>ho.lt b hb
    go_wp2_with (at_builtin;refine zg rfl _ _ _ rfl (w.heap.size+1+1+1+1) 106 i0 Tryz.underlying24 hi iz0 iz1 iz2 (.slice A G.length c) _ G [(X,Y)] rfl rfl ((ho.alloc _).alloc _) (qR (by simp) rfl rfl rfl (by simp[maxLen])) (by simp;omega) (by simp;omega) ?_)
    intro A3 c3 w3 ho3 hg3 _;have hz3:=hg3.size;simp at hz3
    have hA3:=((hA.alloc (.cells #[.int .i64 X,.int .i64 Y] 106)).alloc _).grownR hg3 (fun b hb=>by have:=(hrow b hb).1;omega);have hK3:=((hK.alloc (.cells #[.int .i64 X,.int .i64 Y] 106)).alloc _).grownR hg3 (fun b hb=>by have:=(hrow b hb).1;omega);have hR3:=((hR.alloc (.cells #[.int .i64 X,.int .i64 Y] 106)).alloc _).grownR hg3 (fun b hb=>by have:=(hrow b hb).1;omega);have hO3:=((hO.alloc (.cells #[.int .i64 X,.int .i64 Y] 106)).alloc _).grownR hg3 (fun b hb=>by have:=(hrow b hb).1;omega);have hbl3:Below w.heap.size w w3:=((hbl.alloc (by omega) _).alloc sz_ _).grown hg3 sz_ (fun b hb=>by have:=(hrow b hb).1;omega);clear ho hA hK hR hO hbl hg3 a_0 a_1 kk o_0 o_1 o_f0 o_f1 q0 q1;obtain⟨o_0,o_1,o_f0,o_f1⟩:=hO3.b2;have HO4:Hid (OwnP 106 (w.heap.size+1+1+1+1) (w3.setCell ⟨w.heap.size+1+1+1,0,none⟩ (.slice A3 (G.length+1) c3)) (.slice A3 (G++[(X,Y)]).length c3) (G++[(X,Y)])):=Lib.hid (OwnP.setLow (by simpa using ho3) (show w.heap.size+1+1+1<w.heap.size+1+1+1+1 by omega) _);have HA4:=Lib.hid (hA3.far (p:=⟨w.heap.size+1+1+1,0,none⟩) (show ¬w.heap.size=w.heap.size+1+1+1 by omega) (.slice A3 (G.length+1) c3));have HK4:=Lib.hid (hK3.far (p:=⟨w.heap.size+1+1+1,0,none⟩) (show ¬w.heap.size+1=w.heap.size+1+1+1 by omega) (.slice A3 (G.length+1) c3));have HR4:=Lib.hid (hR3.far (p:=⟨w.heap.size+1+1+1,0,none⟩) (show ¬w.heap.size+1+1=w.heap.size+1+1+1 by omega) (.slice A3 (G.length+1) c3))
    have HO5:Hid (Blk (w3.setCell ⟨w.heap.size+1+1+1,0,none⟩ (.slice A3 (G.length+1) c3)) (w.heap.size+1+1+1) 27 #[.slice A3 (G++[(X,Y)]).length c3,.slice none 0 0]):=Lib.hid (by
     rw[show(G++[(X,Y)]).length =G.length+1 by simp];exact hO3.set_ 0 _)
    have HB4:=Lib.hid (hbl3.setCell (p:=⟨w.heap.size+1+1+1,0,none⟩) (show w.heap.size≤w.heap.size+1+1+1 by omega) (.slice A3 (G.length+1) c3));clear ho3 hA3 hK3 hR3 hO3 hbl3;go_wp2;go_roundw
    case rel=>exact⟨j+1,by omega,by go_num,A3,c3,by rw[HS.out];exact HO4.out,HA4.out,HK4.out,HR4.out,by rw[HS.out];exact HO5.out,HB4.out⟩
    case measure=>simp[intOf];omega
  ·have hjj:j=ns.length:=by omega
   subst hjj;have hnb:=ho.lt;generalize nwo ns k ns.length=NN at*;have ho0:=ho;have hA0:=hA;have hK0:=hK;have hR0:=hR;have hO0:=hO;have hbl0:=hbl;clear ho hA hK hR hO hbl hcelln hG;go_wp2
   go_loopw [33] (fun i wr=>∃j:Nat,j≤ls.length∧i= .int .i64 j∧∃A' c',OwnP 108 (w.heap.size+1+1+1+1) wr (.slice A' (lwo ls k j).length c') (lwo ls k j)∧OwnP 106 (w.heap.size+1+1+1+1) wr (.slice A NN.length c) NN∧
     (∀b,(Value.slice A NN.length c).ownBlock =some b→(Value.slice A' (lwo ls k j).length c').ownBlock =some b→False)∧
     Blk wr w.heap.size 27 #[.slice An ns.length cn,.slice Al ls.length cl]∧Blk wr (w.heap.size+1) 3 #[.int .i64 k]∧Blk wr (w.heap.size+1+1) 27 #[.slice none 0 0,.slice none 0 0]∧
     Blk wr (w.heap.size+1+1+1) 27 #[.slice A NN.length c,.slice A' (lwo ls k j).length c']∧Below w.heap.size w wr) (fun i _=>ls.length -(intOf i).toNat)
   case atStart=>exact⟨0,Nat.zero_le _,rfl,none,0,OwnP.nil _ _ _,ho0,(by intro b h1 h2;cases h2),hA0,hK0,hR0,hO0,hbl0⟩
   case round=>
    obtain⟨j,hj',rfl,A',c',ho,hon,hap,hA,hK,hR,hO,hbl⟩:=hrel;clear ho0 hA0 hK0 hR0 hO0 hbl0 a_0 a_1 kk o_0 o_1 o_f0 o_f1 hnb;have hsz:=hO.lt;obtain⟨a_0,a_1⟩:=hA.c2
    (have kk:=hK.cell 0);simp only[List.getElem?_toArray,List.getElem?_cons_zero] at kk
    obtain⟨o_0,o_1,o_f0,o_f1⟩:=hO.b2;have hG:=z2h ls k j
    by_cases hlt:j<ls.length
    ·obtain⟨b,off,rfl,hb,hcc⟩:=hcelll (by omega)
     obtain⟨k0,k1⟩:=hcc j hlt;obtain⟨b1,b2⟩:=hbd j hlt;have q0:=(hbl.cell (p:=⟨b,off+j*2,none⟩) hb).trans k0;have q1:=(hbl.cell (p:=⟨b,off+j*2+1,none⟩) hb).trans k1;have hi1:(0:Int)≤(j:Int):=by omega
     have hi2:(j:Int)<(ls.length:Int):=by omega
     have p0:w.heap.size<wr.heap.size:=by omega
     have p1:w.heap.size+1<wr.heap.size:=by omega
     clear k0 k1 hcc hcelll;have HS:Hid (lwo ls k (j+1)=if (ndI ls j).1≠k∧(ndI ls j).2≠k then lwo ls k j++[(dnI k (ndI ls j).1,dnI k (ndI ls j).2)] else lwo ls k j):=Lib.hid rfl;generalize lwo ls k j=G at*;generalize (ndI ls j).1=X at*;generalize (ndI ls j).2=Y at*
     by_cases hx:X=k
     ·have HS1:Hid (lwo ls k (j+1)=G):=Lib.hid (by rw[HS.out,if_neg (fun h=>h.1 hx)])
      have e1:(X != k)=false:=by simp[hx]
      have HX:=Lib.hid hx;clear hx HS;have HB:Hid (Below w.heap.size w (wr.alloc (.cells #[.int .i64 X,.int .i64 Y] 108))):=Lib.hid (by exact bel_);go_wp2;go_roundw
      case rel=>exact⟨j+1,by omega,by go_num,A',c',by rw[HS1.out];exact ho.alloc _,hon.alloc _,by rw[HS1.out];exact hap,hA.alloc _,hK.alloc _,hR.alloc _,by rw[HS1.out];exact hO.alloc _,HB.out⟩
      case measure=>simp[intOf];omega
     ·have e1:(X != k)=true:=by simp[hx]
      by_cases hy:Y=k
      ·have HS1:Hid (lwo ls k (j+1)=G):=Lib.hid (by rw[HS.out,if_neg (fun h=>h.2 hy)])
       have e2:(Y != k)=false:=by simp[hy]
       have HX:=Lib.hid hx;have HY:=Lib.hid hy;clear hx hy HS;have HB:Hid (Below w.heap.size w (wr.alloc (.cells #[.int .i64 X,.int .i64 Y] 108))):=Lib.hid (by exact bel_);go_wp2;go_roundw
       case rel=>exact⟨j+1,by omega,by go_num,A',c',by rw[HS1.out];exact ho.alloc _,hon.alloc _,by rw[HS1.out];exact hap,hA.alloc _,hK.alloc _,hR.alloc _,by rw[HS1.out];exact hO.alloc _,HB.out⟩
       case measure=>simp[intOf];omega
      ·have HS1:Hid (lwo ls k (j+1)=G++[(dnI k X,dnI k Y)]):=Lib.hid (by rw[HS.out,if_pos ⟨hx,hy⟩])
       have e2:(Y != k)=true:=by simp[hy]
       have HX:=Lib.hid hx;have HY:=Lib.hid hy;clear hx hy HS;have p3:w.heap.size+1+1+1<wr.heap.size:=by omega
       go_wp2_with fail
       have hrow:∀b,(Value.slice A' G.length c').ownBlock =some b→w.heap.size+1+1+1+1≤b∧b<wr.heap.size:=fun b hb=>ho.lt b hb
       have HKC:=Lib.hid (fun (u:World) (h:u.cell? ⟨w.heap.size+1,0,none⟩=some (.int .i64 k))=>XP X k (w.heap.size+1) u h b1);have HKD:=Lib.hid (fun (u:World) (h:u.cell? ⟨w.heap.size+1,0,none⟩=some (.int .i64 k))=>XP Y k (w.heap.size+1) u h b2);have ne1:w.heap.size+1+1+1≠wr.heap.size:=by omega
       have ne2:w.heap.size+1+1+1≠w.heap.size+1:=by omega
       have t1:w.heap.size+1<wr.heap.size+1:=by omega
       have t2:wr.heap.size<wr.heap.size+1:=by omega
       have HO':=Lib.hid ho;have HKB:=Lib.hid hK;have HOB:=Lib.hid hO;generalize hdx:dnI k X=DX at*;generalize hdy:dnI k Y=DY at*;clear ho hK hO hdx hdy;refine z3J (n:=14) (S:=fun w'=>w'.cell? ⟨wr.heap.size,0,none⟩=some (.int .i64 X)∧w'.cell? ⟨wr.heap.size,1,none⟩=some (.int .i64 Y)∧w'.cell? ⟨w.heap.size+1,0,none⟩=some (.int .i64 k)∧w'.cell? ⟨w.heap.size+1+1+1,1,none⟩=some (.slice A' G.length c')) (by kernel_rfl) ⟨by simp,by simp,((HKB.out.alloc _).drew).cell 0,((HOB.out.alloc _).drew).cell 1⟩ (fun hS=>?_)
       (refine yX (i:=0) (v:=?_) rfl rfl (by kernel_rfl) (by kernel_rfl) (by kernel_rfl) (by kernel_rfl) (fun _ _ _ h=>h) (Or.inl ⟨by rfl,?_⟩) (by assumption) ?_);rotate_left;(focus (intro w' hSw;(try dsimp only at hSw);go_simp;(try with_reducible rfl)));(try simp only[Act.put,List.setIfInBounds_toArray,List.set_cons_zero,List.set_cons_succ])
       (refine yX (i:=1) (v:=?_) rfl rfl (by kernel_rfl) (by kernel_rfl) (by kernel_rfl) (by kernel_rfl) (fun _ _ _ h=>h) (Or.inl ⟨by rfl,?_⟩) (by assumption) ?_);rotate_left;(focus (intro w' hSw;(try dsimp only at hSw);go_simp;(try with_reducible rfl)));(try simp only[Act.put,List.setIfInBounds_toArray,List.set_cons_zero,List.set_cons_succ])
       (refine yX (i:=2) (v:=?_) rfl rfl (by kernel_rfl) (by kernel_rfl) (by kernel_rfl) (by kernel_rfl) (fun _ _ _ h=>h) (Or.inl ⟨by rfl,?_⟩) (by assumption) ?_);rotate_left;(focus (intro w' hSw;(try dsimp only at hSw);go_simp;(try with_reducible rfl)));(try simp only[Act.put,List.setIfInBounds_toArray,List.set_cons_zero,List.set_cons_succ])
       (refine yX (i:=3) (v:=?_) rfl rfl (by kernel_rfl) (by kernel_rfl) (by kernel_rfl) (by kernel_rfl) (fun _ _ _ h=>h) (Or.inl ⟨by rfl,?_⟩) (by assumption) ?_);rotate_left;(focus (intro w' hSw;(try dsimp only at hSw);go_simp;(try with_reducible rfl)));(try simp only[Act.put,List.setIfInBounds_toArray,List.set_cons_zero,List.set_cons_succ])
       (refine yX (i:=4) (v:=?_) rfl rfl (by kernel_rfl) (by kernel_rfl) (by kernel_rfl) (by kernel_rfl) (fun _ _ _ h=>h) (Or.inl ⟨by rfl,?_⟩) (by assumption) ?_);rotate_left;(focus (intro w' hSw;(try dsimp only at hSw);go_simp;(try with_reducible rfl)));(try simp only[Act.put,List.setIfInBounds_toArray,List.set_cons_zero,List.set_cons_succ])
       (refine yX (i:=6) (v:=?_) rfl rfl (by kernel_rfl) (by kernel_rfl) (by kernel_rfl) (by kernel_rfl) (fun _ _ _ h=>h) (Or.inl ⟨by rfl,?_⟩) (by assumption) ?_);rotate_left;(focus (intro w' hSw;(try dsimp only at hSw);go_simp;(try with_reducible rfl)));(try simp only[Act.put,List.setIfInBounds_toArray,List.set_cons_zero,List.set_cons_succ])
       (refine yX (i:=7) (v:=?_) rfl rfl (by kernel_rfl) (by kernel_rfl) (by kernel_rfl) (by kernel_rfl) (fun _ _ _ h=>h) (Or.inl ⟨by rfl,?_⟩) (by assumption) ?_);rotate_left;(focus (intro w' hSw;(try dsimp only at hSw);go_simp;(try with_reducible rfl)));(try simp only[Act.put,List.setIfInBounds_toArray,List.set_cons_zero,List.set_cons_succ])
       (refine yX (i:=8) (v:=?_) rfl rfl (by kernel_rfl) (by kernel_rfl) (by kernel_rfl) (by kernel_rfl) (fun _ _ _ h=>h) (Or.inl ⟨by rfl,?_⟩) (by assumption) ?_);rotate_left;(focus (intro w' hSw;(try dsimp only at hSw);go_simp;(try with_reducible rfl)));(try simp only[Act.put,List.setIfInBounds_toArray,List.set_cons_zero,List.set_cons_succ])
       (refine Zf (i:=5) rfl (by kernel_rfl) (fun K hK=>?_));(rw[if_pos (by rfl)])
       go_simp
       go_at_call 251
       refine(HKC.out _ hS.2.2.1).mono ?_
       rintro e w5 ⟨rfl,rfl⟩
       go_wp2_with fail
       refine hK _ _ (fun _=>hS) (fun _=>?_)
       clear hK K
       (try simp only[Act.put,List.setIfInBounds_toArray,List.set_cons_zero,List.set_cons_succ])
       (refine Zf (i:=9) rfl (by kernel_rfl) (fun K hK=>?_));(rw[if_pos (by rfl)])
       go_simp
       go_at_call 251
       refine(HKD.out _ hS.2.2.1).mono ?_
       rintro e w5 ⟨rfl,rfl⟩
       go_wp2_with fail
       refine hK _ _ (fun _=>hS) (fun _=>?_)
       clear hK K
       (try simp only[Act.put,List.setIfInBounds_toArray,List.set_cons_zero,List.set_cons_succ])
       (refine yX (i:=10) (v:=?_) rfl rfl (by kernel_rfl) (by kernel_rfl) (by kernel_rfl) (by kernel_rfl) (fun _ _ _ h=>h) (Or.inl ⟨by rfl,?_⟩) (by assumption) ?_);rotate_left;(focus (intro w' hSw;(try dsimp only at hSw);go_simp;(try with_reducible rfl)));(try simp only[Act.put,List.setIfInBounds_toArray,List.set_cons_zero,List.set_cons_succ])
       (refine Zf (i:=11) rfl (by kernel_rfl) (fun K hK=>?_));(rw[if_pos (by rfl)])
       go_simp;have HLB:=Lib.hid (Blk.newAt (w:=wr) (g:=wr.heap.size) (t:=108) (cs:= #[.int .i64 X,.int .i64 Y]) rfl);refine hK _ _ (fun _=>⟨(HLB.out.alloc _).cell 0,(HLB.out.alloc _).cell 1,((HKB.out.alloc _).alloc _).cell 0,((HOB.out.alloc _).alloc _).cell 1⟩) (fun hS'=>?_)
       have hS2:=hS' (by decide);clear hK K hS hS'
       (try simp only[Act.put,List.setIfInBounds_toArray,List.set_cons_zero,List.set_cons_succ])
       (refine Zf (i:=12) rfl (by kernel_rfl) (fun K hK=>?_))
       refine zi rfl _ _ _ rfl (w.heap.size+1+1+1+1) 108 j0 Tryz.underlying25 hj jz0 jz1 jz2 (.slice A' G.length c') _ G [(DX,DY)] rfl rfl (((HO'.out.alloc _).alloc _).drew) (z2l (by simp) rfl rfl rfl (by simp[maxLen])) (by simp;omega) (by simp;omega) ?_
       intro A3 c3 w3 ho3 hg3 hw3;have hz3:=hg3.size;simp at hz3
       have hLB3:=((HLB.out.alloc (.cells #[.int .i64 DX,.int .i64 DY] 108)).drew).grownR hg3 (fun b hb=>by have:=(hrow b hb).2;omega);have hA3:=(((hA.alloc (.cells #[.int .i64 X,.int .i64 Y] 108)).alloc (.cells #[.int .i64 DX,.int .i64 DY] 108)).drew).grownR hg3 (fun b hb=>by have:=(hrow b hb).1;omega);have hK3:=(((HKB.out.alloc (.cells #[.int .i64 X,.int .i64 Y] 108)).alloc (.cells #[.int .i64 DX,.int .i64 DY] 108)).drew).grownR hg3 (fun b hb=>by have:=(hrow b hb).1;omega);have hR3:=(((hR.alloc (.cells #[.int .i64 X,.int .i64 Y] 108)).alloc (.cells #[.int .i64 DX,.int .i64 DY] 108)).drew).grownR hg3 (fun b hb=>by have:=(hrow b hb).1;omega);have hO3:=(((HOB.out.alloc (.cells #[.int .i64 X,.int .i64 Y] 108)).alloc (.cells #[.int .i64 DX,.int .i64 DY] 108)).drew).grownR hg3 (fun b hb=>by have:=(hrow b hb).1;omega);have hbl3:Below w.heap.size w w3:=(((hbl.alloc (by omega) _).alloc sz_ _).drew).grown hg3 sz_ (fun b hb=>by have:=(hrow b hb).1;omega);have hon3:=(((hon.alloc (.cells #[.int .i64 X,.int .i64 Y] 108)).alloc (.cells #[.int .i64 DX,.int .i64 DY] 108)).drew).apart hg3 (fun b h1 h2=>hap b h1 h2)
       have hap3:∀b,(Value.slice A NN.length c).ownBlock =some b→(Value.slice A3 (G++[(DX,DY)]).length c3).ownBlock =some b→False:=fun b h1 h2=>by
        have h3:=(hon.lt b h1).2
        rcases hw3 with h|h
        ·rw[h] at h2;exact hap b h1 h2
        ·rw[h] at h2;cases h2;simp at h3;omega
       clear hw3 hg3;refine hK _ _ (fun _=>⟨hLB3.cell 0,hLB3.cell 1,hK3.cell 0,hO3.cell 1⟩) (fun hS'=>?_)
       have hS3:=hS' (by decide);clear hK K hS2 hS'
       (try simp only[Act.put,List.setIfInBounds_toArray,List.set_cons_zero,List.set_cons_succ])
       (refine yX (i:=13) (v:=?_) rfl rfl (by kernel_rfl) (by kernel_rfl) (by kernel_rfl) (by kernel_rfl) (fun _ _ _ h=>h) (Or.inl ⟨by rfl,?_⟩) (by assumption) ?_);rotate_left;(focus (intro w' hSw;(try dsimp only at hSw);go_simp;(try with_reducible rfl)));(try simp only[Act.put,List.setIfInBounds_toArray,List.set_cons_zero,List.set_cons_succ])
       clear a_0 a_1 kk o_0 o_1 o_f0 o_f1 q0 q1;obtain⟨o_0,o_1,o_f0,o_f1⟩:=hO3.b2;have HO4:Hid (OwnP 108 (w.heap.size+1+1+1+1) (w3.setCell ⟨w.heap.size+1+1+1,1,none⟩ (.slice A3 (G.length+1) c3)) (.slice A3 (G++[(DX,DY)]).length c3) (G++[(DX,DY)])):=Lib.hid (OwnP.setLow (by simpa using ho3) (show w.heap.size+1+1+1<w.heap.size+1+1+1+1 by omega) _);have HN4:Hid (OwnP 106 (w.heap.size+1+1+1+1) (w3.setCell ⟨w.heap.size+1+1+1,1,none⟩ (.slice A3 (G.length+1) c3)) (.slice A NN.length c) NN):=Lib.hid (OwnP.setLow hon3 (show w.heap.size+1+1+1<w.heap.size+1+1+1+1 by omega) _);have HA4:=Lib.hid (hA3.far (p:=⟨w.heap.size+1+1+1,1,none⟩) (show ¬w.heap.size=w.heap.size+1+1+1 by omega) (.slice A3 (G.length+1) c3));have HK4:=Lib.hid (hK3.far (p:=⟨w.heap.size+1+1+1,1,none⟩) (show ¬w.heap.size+1=w.heap.size+1+1+1 by omega) (.slice A3 (G.length+1) c3));have HR4:=Lib.hid (hR3.far (p:=⟨w.heap.size+1+1+1,1,none⟩) (show ¬w.heap.size+1+1=w.heap.size+1+1+1 by omega) (.slice A3 (G.length+1) c3))
       have HO5:Hid (Blk (w3.setCell ⟨w.heap.size+1+1+1,1,none⟩ (.slice A3 (G.length+1) c3)) (w.heap.size+1+1+1) 27 #[.slice A NN.length c,.slice A3 (G++[(DX,DY)]).length c3]):=Lib.hid (by
        rw[show(G++[(DX,DY)]).length =G.length+1 by simp];exact hO3.set_ 1 _)
       have HB4:=Lib.hid (hbl3.setCell (p:=⟨w.heap.size+1+1+1,1,none⟩) (show w.heap.size≤w.heap.size+1+1+1 by omega) (.slice A3 (G.length+1) c3));have HAP:=Lib.hid hap3;clear ho3 hA3 hK3 hR3 hO3 hbl3 hLB3 hon3 hap3 hap hA hR hbl hon
       (refine Zf (i:=14) rfl (by kernel_rfl) (fun K hK=>?_));(rw[if_pos (by rfl)])
       go_simp;refine hK _ _ (fun h=>absurd rfl h) (fun _=>?_)
       clear hK K hS3
       (try simp only[Act.put,List.setIfInBounds_toArray,List.set_cons_zero,List.set_cons_succ])
       refine z5P (by kernel_rfl) ?_ _
       go_wp2;go_roundw
       case rel=>exact⟨j+1,by omega,by go_num,A3,c3,by rw[HS1.out];exact HO4.out,HN4.out,by rw[HS1.out];exact HAP.out,HA4.out,HK4.out,HR4.out,by rw[HS1.out];exact HO5.out,HB4.out⟩
       case measure=>simp[intOf];omega
    ·have hjj:j=ls.length:=by omega
     subst hjj;have HO4:=Lib.hid ho;have HN4:=Lib.hid hon;have HAP:=Lib.hid hap;have HB:=Lib.hid hbl;generalize lwo ls k ls.length=LL at*;clear ho hon hap hbl hcelll hG hn hl;obtain⟨r_0,r_1,r_f0,r_f1⟩:=hR.b2;have hs2:w.heap.size+1+1<wr.heap.size:=by omega
     have hz1:w.heap.size≤w.heap.size+1+1:=by omega
     go_wp2;exact bodyPost_ret (v:= .agg #[.slice A NN.length c,.slice A' LL.length c']) (by simp[results,Tryz.results219,go_sem, *]) rfl ⟨_,_,_,_,rfl,⟨((HN4.out.setLow (p:=⟨w.heap.size+1+1,0,none⟩) sz_ _).setLow (p:=⟨w.heap.size+1+1,1,none⟩) sz_ _).mono (by omega),((HO4.out.setLow (p:=⟨w.heap.size+1+1,0,none⟩) sz_ _).setLow (p:=⟨w.heap.size+1+1,1,none⟩) sz_ _).mono (by omega),HAP.out⟩,(HB.out.setCell (by simp;omega) _).setCell (by simp;omega) _⟩
end Go.Proofs.YtnjcpljhmhdhkaaGreat
