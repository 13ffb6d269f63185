/- part 28 -/
import Derived.Test.YtnjcpljhmhdhkaaGreatTPk27
import Derived.Shelf.Abstract
import Derived.BigRegion
set_option linter.unusedSimpArgs false
set_option linter.unusedVariables false
set_option maxRecDepth 100000
set_option maxHeartbeats 4000000
namespace Go.Proofs.YtnjcpljhmhdhkaaGreat
open Go.RowKit
def QT (f:Nat) (lb:Array Value) (G:List Nat) (c:Nat→Nat→Int) (g:Option Nat) (w:World):Prop:=
 ∀(v:World) (d e:Nat),d∈G→e∈G→w.grownBy v g→Calls Tryz.prog f (#[.int .i64 d,.int .i64 e]++lb) v fun en v'=>en= .returned (.int .i64 (c d e))∧Below v.heap.size v v'
theorem yt {w v v':World} {row:Option Nat} (h:w.grownBy v row) (hb:Below v.heap.size v v'):w.grownBy v' row:=
 ⟨hb.os.trans h.os,hb.tape.trans h.tape,hb.output.trans h.output,Nat.le_trans h.size hb.size,fun i hi hne=>(hb.block i (Nat.lt_of_lt_of_le hi h.size)).trans (h.block i hi hne)⟩
theorem vE (w:World) (row:Option Nat):w.grownBy w row:=⟨rfl,rfl,rfl,Nat.le_refl _,fun _ _ _=>rfl⟩
theorem yr {w v:World} {g:Nat} (h:w.grownBy v (some g)) (i:Nat) (x:Value):w.grownBy (v.setCell ⟨g,i,none⟩ x) (some g):=
 ⟨h.os,h.tape,h.output,by simpa[World.setCell] using h.size,fun j hj hne=>(Below.heap_setCell v ⟨g,i,none⟩ x j (fun e=>hne (by rw[e]))).trans (h.block j hj hne)⟩
theorem J0 {w v:World} {row:Option Nat} (h:w.grownBy v row):w.grownBy v.drew row:=⟨h.os,h.tape,h.output,h.size,h.block⟩
theorem Zj (lt:Nat→Nat→Bool) (G:List Nat) (e:Nat):∀i,i≤G.length→e∈isoK lt G i→e∈G
 |0,_,h=>by simp[V2] at h
 |i+1,hi,h=>by
  rw[Qf lt G i (by omega)] at h
  rcases Jg h with rfl|h
  ·exact List.getElem_mem _
  ·exact Zj lt G e i (by omega) h
theorem Xn (lt:Nat→Nat→Bool) (G:List Nat) (h:0<G.length):isoH lt G 1=natI G:=by
 have h1:=ZB lt G 0 h;have h2:posN (lt G[0]) (isoK lt G 0) 0=0:=rfl;rw[h2,xy lt G 0 h,Qj] at h1;exact h1.symm
theorem z0i (base f g cap:Nat) (lb:Array Value) (G:List Nat) (c:Nat→Nat→Int) (lt:Nat→Nat→Bool) (w:World) (hc:QT f lb G c (some g) w) (hlt:∀d e,decide (c d e<0)=lt d e)
  (ho:OwnI base w (.slice (some ⟨g,0,none⟩) G.length cap) (natI G)) (h12:G.length≤12) (ef:Enters Tryz.prog f):
  Calls Tryz.prog 246 #[.slice (some ⟨g,0,none⟩) G.length cap,.int .i64 0,.int .i64 G.length,.func (.func f) #[] lb] w
   fun e w'=>e= .returned (.tuple #[])∧OwnI base w' (.slice (some ⟨g,0,none⟩) G.length cap) (natI (isoK lt G G.length))∧w.grownBy w' (some g):=by
 go_enter Tryz.func246,Tryz.ntmps246
 go_wp2
 go_loopw [8] (fun x wr=>∃i:Nat,1≤i∧(i≤G.length∨G.length=0)∧x= .int .i64 i∧OwnI base wr (.slice (some ⟨g,0,none⟩) G.length cap) (isoH lt G (min i G.length))∧w.grownBy wr (some g)) (fun x _=>G.length -(intOf x).toNat)
 case atStart=>
  refine⟨1,Nat.le_refl _,by omega,rfl,?_,vE _ _⟩
  rcases Nat.eq_zero_or_pos G.length with h0|h0
  ·rw[h0,show min 1 0=0 from rfl,Qj];rw[h0] at ho;exact ho
  ·rw[show min 1 G.length=1 by omega,Xn lt G h0];exact ho
 case round=>
  obtain⟨i,hi1,hi2,rfl,ho2,hg⟩:=hrel;have EF:=Lib.hid ef;clear ho ef
  by_cases hin:i<G.length
  ·rw[show min i G.length=i by omega,←xy lt G i hin] at ho2
   have HE:=Lib.hid (ZB lt G i hin);have hgi:G.getD i 0=G[i]:=by simp[List.getD,hin]
   have hgm:G.getD i 0∈G:=by rw[hgi];exact List.getElem_mem hin
   have HKL:=Lib.hid (ja lt G i (by omega));have HKM:=Lib.hid (fun e h=>Zj lt G e i (by omega) h);rw[←hgi] at HE;have HRS:=Lib.hid (fun p hp=>V1 lt G i p hin hp);have HRB:=Lib.hid (fun p hp=>ZR lt G i p hin hp);have HSW:=Lib.hid (fun p hp=>Vq lt G i p hin hp);have HRL:=Lib.hid (fun p hp=>z0s lt G i p hin hp);clear hgi;generalize hD:G.getD i 0=D at*;have HDD:=Lib.hid hD;clear hD;go_wp2
   go_loopw [9] (fun x wr2=>∃p:Nat,p≤i∧x= .int .i64 p∧OwnI base wr2 (.slice (some ⟨g,0,none⟩) G.length cap) (isoR lt G i p)∧w.grownBy wr2 (some g)∧Hid (posN (lt D) (isoK lt G i) i=posN (lt D) (isoK lt G i) p)) (fun x _=>(intOf x).toNat)
   case atStart=>exact⟨i,Nat.le_refl _,rfl,ho2,hg,Lib.hid rfl⟩
   case round=>
    clear ho2 hg;obtain⟨p,hp,rfl,ho2,hg,HP⟩:=hrel
    by_cases hp0:0<p
    ·obtain⟨r,rfl⟩:∃r,p=r+1:=⟨p -1,by omega⟩
     have hri:r<i:=by omega
     have xs:=ho2.cell (q:=r+1) (by rw[HRL.out _ hp];omega);have xb:=ho2.cell (q:=r) (by rw[HRL.out _ hp];omega);rw[HRS.out _ hp] at xs;rw[HRB.out r hri] at xb;have hem:(isoK lt G i).getD r 0∈G:=HKM.out _ (by rw[List.getD,List.getElem?_eq_getElem (by rw[HKL.out];exact hri)];exact List.getElem_mem _);have HPS:Hid (posN (lt D) (isoK lt G i) (r+1)=if lt D ((isoK lt G i).getD r 0) then posN (lt D) (isoK lt G i) r else r+1):=Lib.hid rfl;have HS:=Lib.hid (HSW.out r hri);have hl1:=hlt D ((isoK lt G i).getD r 0);have hcd:=fun v (hv:w.grownBy v (some g))=>hc v D ((isoK lt G i).getD r 0) hgm hem hv
     generalize (isoK lt G i).getD r 0=e at*;rw[←hl1] at HPS;generalize c D e=z at*;have HC:=Lib.hid hcd;clear hcd hl1 hem;have hp1:(0:Int)<((r+1:Nat):Int):=by omega
     have hsub:(((r+1:Nat):Int)) -1=(r:Int):=by omega
     have ir1:(0:Int)≤(r:Int):=by omega
     have ir2:(r:Int)<(G.length:Int):=by omega
     have ir3:((r+1:Nat):Int)<(G.length:Int):=by omega
     have ir4:(0:Int)≤((r+1:Nat):Int):=by omega
     have hgs:=(ho2.lt g rfl).2;have f0:=ho2.frz r;have f1:=ho2.frz (r+1);clear hc hlt;have hef:∀(args:Array Value) (w:World),(callFunc f args).run Tryz.prog w= .ok (.enter f args) w:=EF.out
     go_wp2_with fail
     (refine z9 (by kernel_rfl) (by kernel_rfl) (fun hG=>?_))
     repeat (go_big_quiet_step ((go_at_fn f;exact zv (HC.out _ (yt hg (Grw.below _))))))
     refine wpQuiet_nil ?_
     clear hG;rintro w3 ⟨⟨_,hb3⟩,rfl⟩;have ho3:=ho2.kept hb3;have hg3:=yt hg hb3;have g0:=ho3.frz r;have g1:=ho3.frz (r+1);have ys:=ho3.cell (q:=r+1) (by rw[HRL.out _ hp];omega);have yb:=ho3.cell (q:=r) (by rw[HRL.out _ hp];omega);rw[HRS.out _ hp] at ys
     have yb':w3.cell? ⟨g,r,none⟩=some (.int .i64 e):=by
      have:=(hb3.cell (p:=⟨g,r,none⟩) hgs).trans xb;exact this
     clear yb f0 f1 xs xb hg hb3 hef
     by_cases hz:z<0
     ·have e1:decide (z<0)=true:=by simp[hz]
      have HO:=Lib.hid (show OwnI base ((w3.setCell ⟨g,r+1,none⟩ (.int .i64 e)).setCell ⟨g,r,none⟩ (.int .i64 D)) (.slice (some ⟨g,0,none⟩) G.length cap) (isoR lt G i r) by
       rw[←HS.out];exact(ho3.set_ (r+1) _).set_ r _)
      have HG:=Lib.hid (yr (yr hg3 (r+1) (.int .i64 e)) r (.int .i64 D));have HP2:Hid (posN (lt D) (isoK lt G i) i=posN (lt D) (isoK lt G i) r):=Lib.hid (by rw[HP.out,HPS.out,if_pos e1]);clear ho2 ho3 hg3
      go_wp2_with fail
      go_region
      all_goals go_wp2
      all_goals go_roundw
      case rel=>exact⟨r,by omega,by go_num,HO.out,J0 HG.out,HP2⟩
      case measure=>simp[intOf]
     ·have e1:decide (z<0)=false:=by simp[hz]
      have HP2:Hid (posN (lt D) (isoK lt G i) i=r+1):=Lib.hid (by rw[HP.out,HPS.out,e1];rfl);have HO:Hid (OwnI base w3 (.slice (some ⟨g,0,none⟩) G.length cap) (isoH lt G (i+1))):=Lib.hid (by rw[←HE.out,HP2.out];exact ho3);clear ho2 ho3;go_wp2;go_roundw
      case rel=>exact⟨i+1,by omega,by omega,by go_num,by rw[show min (i+1) G.length=i+1 by omega];exact HO.out,hg3⟩
      case measure=>simp[intOf];omega
    ·have hp0':p=0:=by omega
     subst hp0';have HP2:Hid (posN (lt D) (isoK lt G i) i=0):=Lib.hid HP.out;have HO:Hid (OwnI base wr (.slice (some ⟨g,0,none⟩) G.length cap) (isoH lt G (i+1))):=Lib.hid (by rw[←HE.out,HP2.out];exact ho2);clear ho2 hc hlt hp0
     go_wp2_with fail
     (refine z9 (by kernel_rfl) (by kernel_rfl) (fun hG=>?_))
     repeat (go_big_quiet_step (fail))
     refine wpQuiet_nil ?_
     clear hG;rintro w3 ⟨⟨_,hb3⟩,rfl⟩;have ho3:=HO.out.kept hb3;have hg3:=yt hg hb3;go_wp2;go_roundw
     case rel=>exact⟨i+1,by omega,by omega,by go_num,by rw[show min (i+1) G.length=i+1 by omega];exact ho3,hg3⟩
     case measure=>simp[intOf];omega
  ·have HO:Hid (OwnI base wr (.slice (some ⟨g,0,none⟩) G.length cap) (natI (isoK lt G G.length))):=Lib.hid (by
    rw[show min i G.length=G.length by omega,XA] at ho2;exact ho2)
   clear hc hlt ho2;go_wp2
   go_end0
   exact⟨rfl,HO.out,hg⟩
section
variable {P:Program} {md:Region.Mode} {ops:Array Oper} {Q:Exit→Act→World→Prop} {S:World→Prop}
def anyE (P:Program) (md:Region.Mode) (ops:Array Oper) (Q:Exit→Act→World→Prop) (S:World→Prop) (n:Nat):Nat→Array Bool→Act→World→Prop
 |0,listed,a,w=>Region.ready md ops listed=[]∧Q .normal a w
 |fuel+1,listed,a,w=>
  (Region.ready md ops listed=[]→Q .normal a w)∧
  ∀i∈Region.ready md ops listed,wpOp P ops Q i (fun a' w'=>((listed.setIfInBounds i true).getD n true=false→S w')∧anyE P md ops Q S n fuel (listed.setIfInBounds i true) a' w') a w
theorem z0O {n:Nat}:∀(fuel:Nat) (listed:Array Bool) (a:Act) (w:World),anyE P md ops Q S n fuel listed a w→wpAny P md ops Q fuel listed a w
 |0,_,_,_,h=>h
 |fuel+1,_,_,_,h=>⟨h.1,fun i hi=>wpOp_mono (fun a' w' h'=>z0O fuel _ a' w' h'.2) (h.2 i hi)⟩
theorem z4O {n i:Nat} {oi on:Oper} {v:Value} (hi:ops[i]? =some oi) (hon:ops[n]? =some on) (hwait:∃e∈on.after,Region.binds md e=true∧e.on=i) (hsel:∀(j:Nat) (o:Oper) cs b,ops[j]? =some o→o.op≠ .select cs b)
  (hQ:∀c a w,Q (.panic c) (a.put oi.dst v) w→Q (.panic c) a w):
  ∀(fuel:Nat) (listed:Array Bool) (a:Act) (w:World),
   (∀j oj,ops[j]? =some oj→j≠i→listed.getD j true=false→(∀e∈oj.after,Region.binds md e=true→e.on≠i)→oi.apart ops oj=true)→
   i∈Region.ready md ops listed→listed.getD n true=false→YieldsIf P ops S oi v a→S w→
   anyE P md ops Q S n fuel (listed.setIfInBounds i true) (a.put oi.dst v) w→anyE P md ops Q S n (fuel+1) listed a w:=by
 intro fuel
 induction fuel with
 |zero=>
  intro listed a w _ hr hn hy hS H;refine⟨fun h=>(by rw[h] at hr;cases hr),fun j hj=>?_⟩
  by_cases hji:j=i
  ·subst hji
   exact hy.wpOp hi hS ⟨fun _=>hS,H⟩
  ·have:=ready_mono hj hji
   rw[H.1] at this
   cases this
 |succ fuel ih=>
  intro listed a w hfree hr hn hy hS H;refine⟨fun h=>(by rw[h] at hr;cases hr),fun j hj=>?_⟩
  by_cases hji:j=i
  ·subst hji
   exact hy.wpOp hi hS ⟨fun _=>hS,H⟩
  ·have h1:=H.2 j (ready_mono hj hji)
   obtain⟨hjun,oj,hoj,hall⟩:=mem_ready.1 hj
   have hnot:∀e∈oj.after,Region.binds md e=true→e.on≠i:=fun e he hb heq=>by
    have g1:=hall e he hb;have g0:=(mem_ready.1 hr).1;rw[heq] at g1
    rcases Nat.lt_or_ge i listed.size with h'|h'
    ·simp[h'] at g0 g1;rw[g0] at g1;cases g1
    ·simp[Array.getElem?_eq_none h'] at g1
   have hjn:j≠n:=by
    rintro rfl;rw[hon] at hoj
    cases hoj
    obtain⟨e,he,hb,heq⟩:=hwait;exact hnot e he hb heq
   have hin:i≠n:=by
    rintro rfl;rw[hon] at hi
    cases hi
    obtain⟨e,he,hb,heq⟩:=hwait;obtain⟨h0,o',ho',hall'⟩:=mem_ready.1 hr;rw[hon] at ho'
    cases ho'
    have g1:=hall' e he hb;rw[heq] at g1
    rcases Nat.lt_or_ge i listed.size with h'|h'
    ·simp[h'] at h0 g1;rw[h0] at g1;cases g1
    ·simp[Array.getElem?_eq_none h'] at g1
   have h2:=wpOp_putIf hoj (hfree j oj hoj hji hjun hnot) (fun cs b=>hsel i oi cs b hi) (fun cs b=>hsel j oj cs b hoj) hQ hy h1
   have hfree':∀k ok,ops[k]? =some ok→k≠i→(listed.setIfInBounds j true).getD k true=false→
     (∀e∈ok.after,Region.binds md e=true→e.on≠i)→oi.apart ops ok=true:=fun k ok hk hki hun hno=>by
    refine hfree k ok hk hki ?_ hno
    by_cases hjk:j=k
    ·subst hjk;exact hjun
    ·rw[getD_set_ne true hjk] at hun;exact hun
   have hnf:((listed.setIfInBounds i true).setIfInBounds j true).getD n true=false:=by rw[getD_set_ne true hjn,getD_set_ne true hin];exact hn
   refine wpOp_mono (fun a' w' h3=>⟨fun _=>h3.2.1 hnf,ih (listed.setIfInBounds j true) a' w' hfree' (ready_mono hr (Ne.symm hji)) (by rw[getD_set_ne true hjn];exact hn) h3.1 (h3.2.1 hnf) ?_⟩) h2
   rw[Array.setIfInBounds_comm _ _ hji];exact h3.2.2
theorem z4M {n i:Nat} {oi:Oper} {v:Value} (hi:ops[i]? =some oi) (hin:i≠n) (hsel:∀(j:Nat) (o:Oper) cs b,ops[j]? =some o→o.op≠ .select cs b)
  (hQ:∀c a w,Q (.panic c) (a.put oi.dst v) w→Q (.panic c) a w):
  ∀(fuel:Nat) (listed:Array Bool) (a:Act) (w:World),
   (∀j oj,ops[j]? =some oj→j≠i→listed.getD j true=false→(∀e∈oj.after,Region.binds md e=true→e.on≠i)→oi.apart ops oj=true)→
   i∈Region.ready md ops listed→YieldsIf P ops (fun _=>True) oi v a→(listed.getD n true=false→S w)→
   anyE P md ops Q S n fuel (listed.setIfInBounds i true) (a.put oi.dst v) w→anyE P md ops Q S n (fuel+1) listed a w:=by
 intro fuel
 induction fuel with
 |zero=>
  intro listed a w _ hr hy hS H;refine⟨fun h=>(by rw[h] at hr;cases hr),fun j hj=>?_⟩
  by_cases hji:j=i
  ·subst hji
   exact hy.wpOp hi trivial ⟨fun h=>hS (by rw[getD_set_ne true hin] at h;exact h),H⟩
  ·have:=ready_mono hj hji
   rw[H.1] at this
   cases this
 |succ fuel ih=>
  intro listed a w hfree hr hy hS H;refine⟨fun h=>(by rw[h] at hr;cases hr),fun j hj=>?_⟩
  by_cases hji:j=i
  ·subst hji
   exact hy.wpOp hi trivial ⟨fun h=>hS (by rw[getD_set_ne true hin] at h;exact h),H⟩
  ·have h1:=H.2 j (ready_mono hj hji)
   obtain⟨hjun,oj,hoj,hall⟩:=mem_ready.1 hj
   have hnot:∀e∈oj.after,Region.binds md e=true→e.on≠i:=fun e he hb heq=>by
    have g1:=hall e he hb;have g0:=(mem_ready.1 hr).1;rw[heq] at g1
    rcases Nat.lt_or_ge i listed.size with h'|h'
    ·simp[h'] at g0 g1;rw[g0] at g1;cases g1
    ·simp[Array.getElem?_eq_none h'] at g1
   have h2:=wpOp_putIf hoj (hfree j oj hoj hji hjun hnot) (fun cs b=>hsel i oi cs b hi) (fun cs b=>hsel j oj cs b hoj) hQ hy h1
   have hfree':∀k ok,ops[k]? =some ok→k≠i→(listed.setIfInBounds j true).getD k true=false→
     (∀e∈ok.after,Region.binds md e=true→e.on≠i)→oi.apart ops ok=true:=fun k ok hk hki hun hno=>by
    refine hfree k ok hk hki ?_ hno
    by_cases hjk:j=k
    ·subst hjk;exact hjun
    ·rw[getD_set_ne true hjk] at hun;exact hun
   have hcomm:((listed.setIfInBounds i true).setIfInBounds j true)=((listed.setIfInBounds j true).setIfInBounds i true):=Array.setIfInBounds_comm _ _ (Ne.symm hji);refine wpOp_mono (fun a' w' h3=>?_) h2
   have hs:(listed.setIfInBounds j true).getD n true=false→S w':=fun hf=>h3.2.1 (by rw[hcomm,getD_set_ne true hin];exact hf)
   refine⟨hs,ih (listed.setIfInBounds j true) a' w' hfree' (ready_mono hr (Ne.symm hji)) h3.1 hs ?_⟩
   rw[←hcomm];exact h3.2.2
theorem zq {n i:Nat} {oi on:Oper} {v:Value} {fuel:Nat} {listed:Array Bool} {a:Act} {w:World} (hi':(ops.toList.drop i).head? =some oi) (hon':(ops.toList.drop n).head? =some on) (hwait:(on.after.any fun e=>Region.binds md e&&e.on==i)=true)
  (hs:Region.noSelect ops=true) (hf:Region.free md ops listed i=true) (hr:(Region.ready md ops listed).contains i=true) (hn:listed.getD n true=false)
  (hQ:∀c a w,Q (.panic c) (a.put oi.dst v) w→Q (.panic c) a w) (hy:YieldsIf P ops S oi v a) (hS:S w)
  (h:anyE P md ops Q S n fuel (listed.setIfInBounds i true) (a.put oi.dst v) w):anyE P md ops Q S n (fuel+1) listed a w:=by
 have hi:=qI hi';have hon:=qI hon';refine z4O hi hon ?_ (Region.noSelect_spec hs) hQ fuel listed a w (Region.free_spec hi hf) (by simpa using hr) hn hy hS h
 rw[Array.any_eq_true] at hwait;obtain⟨k,hk,h⟩:=hwait;rw[Bool.and_eq_true] at h;exact⟨on.after[k],Array.getElem_mem hk,h.1,by simpa using h.2⟩
theorem z2j {n i:Nat} {oi:Oper} {v:Value} {fuel:Nat} {listed:Array Bool} {a:Act} {w:World} (hi':(ops.toList.drop i).head? =some oi) (hin:i≠n)
  (hs:Region.noSelect ops=true) (hf:Region.free md ops listed i=true) (hr:(Region.ready md ops listed).contains i=true)
  (hQ:∀c a w,Q (.panic c) (a.put oi.dst v) w→Q (.panic c) a w) (hy:YieldsIf P ops (fun _=>True) oi v a) (hS:S w)
  (h:anyE P md ops Q S n fuel (listed.setIfInBounds i true) (a.put oi.dst v) w):anyE P md ops Q S n (fuel+1) listed a w:=
 z4M (qI hi') hin (Region.noSelect_spec hs) hQ fuel listed a w (Region.free_spec (qI hi') hf) (by simpa using hr) hy (fun _=>hS) h
theorem yW {n i:Nat} {o:Oper} {fuel:Nat} {listed:Array Bool} {a:Act} {w:World} (ho':(ops.toList.drop i).head? =some o) (hr:Region.ready md ops listed=[i])
  (h:∀K':Act→World→Prop,(∀a w,((listed.setIfInBounds i true).getD n true=false→S w)→(((listed.setIfInBounds i true).getD n true=false→S w)→anyE P md ops Q S n fuel (listed.setIfInBounds i true) a w)→K' a w)→if Region.wanted o (yielded ops a.tmps)=true then Oper.wp P o a w K' Q else K' (a.put o.dst undef) w):
  anyE P md ops Q S n (fuel+1) listed a w:=by
 have ho:=qI ho';refine⟨fun h0=>(by rw[hr] at h0;cases h0),fun j hj=>?_⟩
 rw[hr,List.mem_singleton] at hj;subst hj;exact wpOp_step ho (fun K' hK=>h K' (fun a w hS hW=>hK a w ⟨hS,hW hS⟩))
theorem VJ {n:Nat} {listed:Array Bool} {a:Act} {w:World} (hr:Region.ready md ops listed=[]) (h:Q .normal a w):∀fuel,anyE P md ops Q S n fuel listed a w
 |0=>⟨hr,h⟩
 |_+1=>⟨fun _=>h,by rw[hr];simp⟩
theorem xO {id n:Nat} {a:Act} {w:World} (hm:P.follows .mixedOrders =true) (hS:S w.drew)
  (h:S w.drew→anyE P .any ops Q S n ops.size (Array.replicate ops.size false) a w.drew):(Code.region id ops true).wp P Q a w:=
 wp_region_any hm (z0O _ _ _ _ (h hS))
end
def tk (L:Array Bool) (j:Nat):Bool:=L.getD j true
theorem X8 (L:Array Bool) (i:Nat):tk (L.setIfInBounds i true) i=true:=by
 unfold tk
 rcases Nat.lt_or_ge i L.size with h|h
 ·simp[h]
 ·simp[h]
theorem jx {L:Array Bool} {i j:Nat} (h:i≠j):tk (L.setIfInBounds i true) j=tk L j:=getD_set_ne true h
theorem QM {L:Array Bool} {j:Nat} (h:tk L j=false):j<L.size:=by
 unfold tk at h
 rcases Nat.lt_or_ge j L.size with h'|h'
 ·exact h'
 ·simp[h'] at h
theorem z5d {L:Array Bool} {j:Nat} (h:L.getD j false=true):tk L j=true:=by
 unfold tk
 rcases Nat.lt_or_ge j L.size with h'|h'
 ·simp[h'] at h⊢;exact h
 ·simp[h'] at h
theorem preS {L:Array Bool} {i:Nat} {l:List Nat} (h:∀j∈l,tk L j=true):∀j∈l,tk (L.setIfInBounds i true) j=true:=by
 intro j hj
 by_cases hij:i=j
 ·subst hij;exact X8 L i
 ·rw[jx hij];exact h j hj
def Aft (L:Array Bool) (j:Nat) (p:Prop):Prop:=tk L j=true→p
theorem Aft.keep {L:Array Bool} {i j:Nat} {p:Prop} (h:Aft L j p) (hne:i≠j):Aft (L.setIfInBounds i true) j p:=fun ht=>h (by rw[jx hne] at ht;exact ht)
theorem Aft.new {L:Array Bool} {j:Nat} {p:Prop} (h:p):Aft L j p:=fun _=>h
theorem Aft.no {L:Array Bool} {j:Nat} {p:Prop} (h:tk L j=false):Aft L j p:=fun ht=>by rw[h] at ht;cases ht
def kY (base:Nat) (t:TypeId) (cs:Array Value) (v:Value) (w:World):Prop:=∃g,v= .pointer (some ⟨g,0,none⟩)∧base≤g∧Blk w g t cs
theorem kY.below {base:Nat} {t:TypeId} {cs:Array Value} {v:Value} {w w':World} (h:kY base t cs v w) (hb:Below w.heap.size w w'):kY base t cs v w':=by
 obtain⟨g,h1,h2,h3⟩:=h;exact⟨g,h1,h2,h3.below hb h3.lt⟩
theorem kY.ne {base:Nat} {t:TypeId} {cs:Array Value} {v:Value} {w:World} (h:kY base t cs v w):v≠ .pointer (some ⟨w.heap.size,0,none⟩):=by
 obtain⟨g,h1,h2,h3⟩:=h;have:=h3.lt;rintro rfl
 injection h1 with h1
 injection h1 with h1
 injection h1 with h1
 omega
theorem kY.far {base:Nat} {t:TypeId} {cs:Array Value} {v:Value} {w:World} (h:kY base t cs v w) {g i:Nat} (hne:v≠ .pointer (some ⟨g,0,none⟩)) (x:Value):kY base t cs v (w.setCell ⟨g,i,none⟩ x):=by
 obtain⟨g',h1,h2,h3⟩:=h;exact⟨g',h1,h2,h3.far (p:=⟨g,i,none⟩) (fun e=>hne (by rw[h1,show g'=g from e])) x⟩
structure One (L:Array Bool) (i s base:Nat) (t:TypeId) (z f:Array Value) (v:Value) (w:World):Prop where
 ord:tk L s=true→tk L i=true
 zero:tk L i=true→tk L s=false→kY base t z v w
 full:tk L s=true→kY base t f v w
theorem One.start {L:Array Bool} {i s base:Nat} {t:TypeId} {z f:Array Value} {v:Value} {w:World} (hi:tk L i=false) (hs:tk L s=false):One L i s base t z f v w:=
 ⟨fun h=>by(rw[hs] at h;cases h),fun h=>by(rw[hi] at h;cases h),fun h=>by(rw[hs] at h;cases h)⟩
theorem One.step {L:Array Bool} {i s base k:Nat} {t:TypeId} {z f:Array Value} {v:Value} {w w':World} (h:One L i s base t z f v w) (h1:k≠i) (h2:k≠s) (hb:Below w.heap.size w w'):One (L.setIfInBounds k true) i s base t z f v w':=
 ⟨by rw[jx h1,jx h2];exact h.ord,by rw[jx h1,jx h2];exact fun a b=>(h.zero a b).below hb,by rw[jx h2];exact fun a=>(h.full a).below hb⟩
theorem One.far {L:Array Bool} {i s base k g:Nat} {t:TypeId} {z f:Array Value} {v:Value} {w:World} (h:One L i s base t z f v w) (h1:k≠i) (h2:k≠s) (hne:tk L i=true→v≠ .pointer (some ⟨g,0,none⟩)) (a b:Nat) (x y:Value):
  One (L.setIfInBounds k true) i s base t z f v ((w.setCell ⟨g,a,none⟩ x).setCell ⟨g,b,none⟩ y):=
 ⟨by rw[jx h1,jx h2];exact h.ord,by rw[jx h1,jx h2];exact fun p q=>((h.zero p q).far (hne p) x).far (hne p) y,by rw[jx h2];exact fun p=>((h.full p).far (hne (h.ord p)) x).far (hne (h.ord p)) y⟩
theorem One.lay {L:Array Bool} {i s base:Nat} {t:TypeId} {z f:Array Value} {v:Value} {w:World} (h:One L i s base t z f v w) (hun:tk L i=false) (his:i≠s) (hb:base≤w.heap.size):One (L.setIfInBounds i true) i s base t z f (.pointer (some ⟨w.heap.size,0,none⟩)) (w.alloc (.cells z t)):=by
 have hs:tk L s=false:=by
  cases hc:tk L s
  ·rfl
  ·have:=h.ord hc
   rw[hun] at this;cases this
 exact⟨(by rw[jx his,hs];exact(fun h=>by cases h)),fun _ _=>⟨_,rfl,hb,Blk.new w t z⟩,(by rw[jx his,hs];exact(fun h=>by cases h))⟩
theorem One.fill {L:Array Bool} {i s base:Nat} {t:TypeId} {x y p q:Value} {v:Value} {w:World} {g:Nat} (h:One L i s base t #[x,y] #[p,q] v w) (hi:tk L i=true) (hs:tk L s=false) (hv:v= .pointer (some ⟨g,0,none⟩)) (his:s≠i):
  One (L.setIfInBounds s true) i s base t #[x,y] #[p,q] v ((w.setCell ⟨g,0,none⟩ p).setCell ⟨g,1,none⟩ q):=by
 obtain⟨g',h1,h2,h3⟩:=h.zero hi hs;rw[hv] at h1
 injection h1 with h1
 injection h1 with h1
 injection h1 with h1
 subst h1;refine⟨fun _=>by rw[jx his];exact hi,fun _ hc=>(by rw[X8] at hc;cases hc),fun _=>⟨g,hv,h2,?_⟩⟩
 have:=(h3.set_ 0 p).set_ 1 q
 simpa using this
def Apart2 (L:Array Bool) (i j:Nat) (v u:Value):Prop:=tk L i=true→tk L j=true→v≠u
theorem Apart2.start {L:Array Bool} {i j:Nat} {v u:Value} (h:tk L i=false):Apart2 L i j v u:=fun h1=>by rw[h] at h1;cases h1
theorem Apart2.step {L:Array Bool} {i j k:Nat} {v u:Value} (h:Apart2 L i j v u) (h1:k≠i) (h2:k≠j):Apart2 (L.setIfInBounds k true) i j v u:=by
 unfold Apart2;rw[jx h1,jx h2];exact h
theorem One.old {L:Array Bool} {i s base:Nat} {t:TypeId} {z f:Array Value} {v:Value} {w:World} (h:One L i s base t z f v w) (hi:tk L i=true):v≠ .pointer (some ⟨w.heap.size,0,none⟩):=by
 cases hs:tk L s
 ·exact(h.zero hi hs).ne
 ·exact(h.full hs).ne
theorem Apart2.newR {L:Array Bool} {i j s base:Nat} {t:TypeId} {z f:Array Value} {v:Value} {w:World} (h:One L i s base t z f v w) (h1:j≠i):Apart2 (L.setIfInBounds j true) i j v (.pointer (some ⟨w.heap.size,0,none⟩)):=by
 unfold Apart2;rw[jx h1];exact fun hi _=>h.old hi
theorem Apart2.newL {L:Array Bool} {i j s base:Nat} {t:TypeId} {z f:Array Value} {v:Value} {w:World} (h:One L j s base t z f v w) (h1:i≠j):Apart2 (L.setIfInBounds i true) i j (.pointer (some ⟨w.heap.size,0,none⟩)) v:=by
 unfold Apart2;rw[jx h1];exact fun _ hj=>(h.old hj).symm
section
variable {P:Program} {md:Region.Mode} {ops:Array Oper} {Q:Exit→Act→World→Prop} {S:World→Prop}
theorem ZA {i:Nat} {L:Array Bool} (h:i∈Region.ready md ops L):tk L i=false:=(mem_ready.1 h).1
theorem qq {i j:Nat} {o:Oper} {L:Array Bool} (h:i∈Region.ready md ops L) (ho:(ops.toList.drop i).head? =some o) (hw:(o.after.any fun e=>Region.binds md e&&e.on==j)=true):tk L j=true:=by
 obtain⟨_,o',ho',hall⟩:=mem_ready.1 h;rw[qI ho] at ho'
 cases ho'
 rw[Array.any_eq_true] at hw;obtain⟨k,hk,h2⟩:=hw;rw[Bool.and_eq_true] at h2;have:=hall o.after[k] (Array.getElem_mem hk) h2.1;rw[show o.after[k].on =j by simpa using h2.2] at this;exact z5d this
def z48 (md:Region.Mode) (ops:Array Oper):Bool:=(List.range ops.size).all fun i=>((ops[i]?).map (·.after.all fun e=> !Region.binds md e||decide (e.on<i))).getD true
def z3X (md:Region.Mode) (ops:Array Oper) (n:Nat):Bool:=
 ((ops[n]?).map fun o=>(List.range n).all fun j=>o.after.any fun e=>Region.binds md e&&e.on==j).getD false&&
 (List.range ops.size).all fun i=>decide (i≤n)||((ops[i]?).map fun o=>o.after.any fun e=>Region.binds md e&&e.on==n).getD true
theorem qj {i:Nat} {o:Oper} {K:Act→World→Prop} {a:Act} {w:World} (ho:(ops.toList.drop i).head? =some o)
  (h:∀K':Act→World→Prop,(∀a w,K a w→K' a w)→if Region.wanted o (yielded ops a.tmps)=true then Oper.wp P o a w K' Q else K' (a.put o.dst undef) w):wpOp P ops Q i K a w:=
 wpOp_step (qI ho) h
theorem z1h (hb:z48 md ops=true) {L:Array Bool} (hs:L.size=ops.size) {k:Nat} (hk:tk L k=false):Region.ready md ops L≠ []:=by
 intro hr
 have hex:∀m,m≤ops.size→∀j,j<m→tk L j=true:=by
  intro m
  induction m with
  |zero=>intro _ j hj;omega
  |succ m ih=>
   intro hm j hj
   rcases Nat.lt_succ_iff_lt_or_eq.1 hj with h|h
   ·exact ih (by omega) j h
   ·subst h
    apply Classical.byContradiction
    intro hc;have hc':tk L j=false:=by simpa using hc
    have hj2:j<ops.size:=by omega
    have:j∈Region.ready md ops L:=by
     rw[mem_ready];refine⟨hc',ops[j],by simp[hj2],fun e he hbd=>?_⟩
     unfold z48 at hb;rw[List.all_eq_true] at hb;have h1:=hb j (List.mem_range.2 hj2);simp only[Array.getElem?_eq_getElem hj2,Option.map_some,Option.getD_some,Array.all_eq_true_iff_forall_mem] at h1
     have h2:=h1 e he;rw[hbd] at h2;have h3:e.on<j:=by simpa using h2
     have h4:=ih (by omega) e.on h3;unfold tk at h4;have h5:e.on<L.size:=by omega
     simp[h5] at h4⊢
     exact h4
    rw[hr] at this
    cases this
 have hk2:=QM hk;have:=hex ops.size (Nat.le_refl _) k (by omega);rw[this] at hk
 cases hk
def JX (N:Nat) (L:Array Bool):Nat:=(List.range N).countP fun j=> !tk L j
theorem z2U {N i:Nat} {L:Array Bool} (hi:i<N) (h:tk L i=false):JX N (L.setIfInBounds i true)+1=JX N L:=by
 unfold JX
 induction N with
 |zero=>omega
 |succ N ih=>
  rw[List.range_succ,List.countP_append,List.countP_append]
  by_cases he:i=N
  ·subst he
   have e:(List.range i).countP (fun j=> !tk (L.setIfInBounds i true) j)=(List.range i).countP (fun j=> !tk L j):=by
    apply List.countP_congr
    intro j hj;have:=List.mem_range.1 hj;rw[jx (show i≠j by omega)]
   rw[e];simp[List.countP_cons,X8,h]
  ·have:=ih (by omega)
   have e: [N].countP (fun j=> !tk (L.setIfInBounds i true) j)=[N].countP (fun j=> !tk L j):=by
    simp[List.countP_cons,jx he]
   rw[e];omega
def x7 (n N:Nat):Array Bool:=Array.replicate n true++Array.replicate (N -n) false
theorem z51 {n:Nat} {L:Array Bool} (h1:∀j,j<n→tk L j=true) (h2:∀j,n≤j→j<L.size→tk L j=false) (hn:n≤L.size):L=x7 n L.size:=by
 apply Array.ext
 ·simp[x7];omega
 ·intro j hj hj'
  have e:tk L j=L[j]:=by unfold tk;simp[hj]
  rcases Nat.lt_or_ge j n with h|h
  ·rw[←e,h1 j h]
   simp[x7,Array.getElem_append,h]
  ·rw[←e,h2 j h hj]
   simp[x7,Array.getElem_append,show ¬j<n by omega]
theorem z22 {n:Nat} {Inv:Array Bool→Act→World→Prop} (hn:n<ops.size) (hb:z48 md ops=true) (hl:z3X md ops n=true)
  (hstep:∀L a w,Inv L a w→∀i,i<n→i∈Region.ready md ops L→wpOp P ops Q i (fun a' w'=>S w'∧Inv (L.setIfInBounds i true) a' w') a w)
  (hend:∀a w,Inv (x7 n ops.size) a w→anyE P md ops Q S n (ops.size -n) (x7 n ops.size) a w):
  ∀(fuel:Nat) (L:Array Bool) (a:Act) (w:World),L.size=ops.size→(∀j,n≤j→j<ops.size→tk L j=false)→JX ops.size L=fuel→Inv L a w→anyE P md ops Q S n fuel L a w:=by
 intro fuel
 induction fuel with
 |zero=>
  intro L a w hs hun hc _
  exfalso
  have h0:=hun n (Nat.le_refl _) hn;unfold JX at hc;rw[List.countP_eq_zero] at hc;have:=hc n (List.mem_range.2 hn);rw[h0] at this;exact this rfl
 |succ fuel ih=>
  intro L a w hs hun hc hI
  by_cases hrn:n∈Region.ready md ops L
  ·have hall:∀j,j<n→tk L j=true:=by
    intro j hj;unfold z3X at hl;rw[Bool.and_eq_true] at hl;have h1:=hl.1;rw[Array.getElem?_eq_getElem hn,Option.map_some,Option.getD_some,List.all_eq_true] at h1;exact qq (o:=ops[n]) hrn (by rw[List.head?_drop,Array.getElem?_toList,Array.getElem?_eq_getElem hn]) (h1 j (List.mem_range.2 hj))
   have hL:=z51 hall (fun j h1 h2=>hun j h1 (by omega)) (by omega);rw[hs] at hL
   have hcnt:fuel+1=ops.size -n:=by
    rw[←hc,hL];unfold JX
    have e:∀N,n≤N→(List.range N).countP (fun j=> !tk (x7 n N) j)=N -n:=by
     intro N hN
     have g:∀m,m≤N→(List.range m).countP (fun j=> !tk (x7 n N) j)=m -n:=by
      intro m
      induction m with
      |zero=>intro _;simp
      |succ m ihm=>
       intro hm;rw[List.range_succ,List.countP_append,ihm (by omega)]
       have hv:tk (x7 n N) m=decide (m<n):=by
        unfold tk x7
        by_cases h:m<n
        ·simp[Array.getElem?_append,h]
        ·simp[Array.getElem?_append,h,show m -n<N -n by omega]
       by_cases h:m<n
       ·simp[List.countP_cons,hv,h];omega
       ·simp[List.countP_cons,hv,h];omega
     exact g N (Nat.le_refl _)
    exact e ops.size (by omega)
   rw[hcnt,hL];exact hend a w (by rw[hL] at hI;exact hI)
  ·refine⟨fun h0=>absurd h0 (z1h hb hs (hun n (Nat.le_refl _) hn)),fun i hi=>?_⟩
   have hun_i:=ZA hi;have hil:i<ops.size:=by have:=QM hun_i;omega
   have hin:i<n:=by
    apply Classical.byContradiction
    intro hge
    rcases Nat.lt_or_eq_of_le (Nat.le_of_not_lt hge) with h|h
    ·unfold z3X at hl
     rw[Bool.and_eq_true] at hl;have h1:=List.all_eq_true.1 hl.2 i (List.mem_range.2 hil);rw[Array.getElem?_eq_getElem hil,Option.map_some,Option.getD_some] at h1
     have h2:(ops[i].after.any fun e=>Region.binds md e&&e.on==n)=true:=by
      rcases Bool.or_eq_true_iff.1 h1 with h3|h3
      ·simp at h3;omega
      ·exact h3
     have:=qq (o:=ops[i]) hi (by rw[List.head?_drop,Array.getElem?_toList,Array.getElem?_eq_getElem hil]) h2;rw[hun n (Nat.le_refl _) hn] at this
     cases this
    ·subst h;exact hrn hi
   refine wpOp_mono (fun a' w' h'=>⟨fun _=>h'.1,ih (L.setIfInBounds i true) a' w' (by simpa using hs) (fun j h1 h2=>by rw[jx (by omega)];exact hun j h1 h2) ?_ h'.2⟩) (hstep L a w hI i hin hi)
   have:=z2U (N:=ops.size) hil hun_i;omega
end
theorem Qw (ls:List Pr) (k:Nat):∀m,(frD ls k m).Nodup
 |0=>by simp[frD]
 |m+1=>by
  by_cases h:zd ls m=k
  ·rw[Z4 h,List.nodup_append]
   refine⟨Qw ls k m,by simp,fun a ha b hb=>?_⟩
   have:=(ZL ls k m a ha).1;simp at hb
   omega
  ·rw[Xa h];exact Qw ls k m
theorem z3N {ns ls:List Pr} (h:q7 ns ls) {d e:Nat} (hd:d<2*ls.length) (he:e<2*ls.length) (h1:zd ls d=zd ls e) (h2:dTo ls d=dTo ls e):d=e:=by
 have h6:=h.2.2.2.2.2;have l1:=zR.1 (h6 (d/2) (by omega)).1;have l2:=zR.1 (h6 (e/2) (by omega)).1
 by_cases hq:d/2=e/2
 ·unfold zd at h1
  rw[hq] at h1 l1
  by_cases p1:d%2=1<;>by_cases p2:e%2=1
  ·omega
  ·rw[if_pos p1,if_neg p2] at h1;omega
  ·rw[if_neg p1,if_pos p2] at h1;omega
  ·omega
 ·exfalso
  refine z1J h (by omega) (by omega) hq ?_
  unfold zd at h1;unfold dTo at h2;refine Prod.ext_iff.2 ?_
  by_cases p1:d%2=1<;>by_cases p2:e%2=1
  ·rw[if_pos p1,if_pos p2] at h1 h2;exact⟨h2,h1⟩
  ·rw[if_pos p1,if_neg p2] at h1 h2;exfalso;omega
  ·rw[if_neg p1,if_pos p2] at h1 h2;exfalso;omega
  ·rw[if_neg p1,if_neg p2] at h1 h2;exact⟨h1,h2⟩
theorem z4B {ns ls:List Pr} (h:q7 ns ls) (k:Nat):(frD ls k (2*ls.length)).length ≤12:=by
 apply Classical.byContradiction
 intro hc;have hld:∀j:Nat,j<ls.length→zj ns (ndI ls j)=true:=fun j hj=>(h.2.2.2.2.2 j hj).1
 have hn:=h.2.1;generalize hG:frD ls k (2*ls.length)=G at*
 have hm:∀i,i<G.length→G.getD i 0<2*ls.length∧zd ls (G.getD i 0)=k:=by
  intro i hi;have:=ZL ls k (2*ls.length) (G.getD i 0) (by rw[hG,List.getD,List.getElem?_eq_getElem hi];exact List.getElem_mem hi);exact this
 obtain⟨i,j,h1,h2,h3⟩:=pigeon 12 (fun i=>(dTo ls (G.getD i 0)).toNat) (fun i hi=>by
  obtain⟨t,ht,htn⟩:=jh hld (hm i (by omega)).1
  show(dTo ls (G.getD i 0)).toNat <12
  rw[ht];omega)
 have mi:=hm i (by omega);have mj:=hm j (by omega);obtain⟨t,ht,_⟩:=jh hld mi.1;obtain⟨u,hu,_⟩:=jh hld mj.1;have h3':(dTo ls (G.getD i 0)).toNat =(dTo ls (G.getD j 0)).toNat :=h3;have hto:dTo ls (G.getD i 0)=dTo ls (G.getD j 0):=by rw[ht,hu] at h3'⊢;omega
 have he:=z3N h mi.1 mj.1 (by rw[mi.2,mj.2]) hto;have hnd:=Qw ls k (2*ls.length);rw[hG] at hnd;have li:i<G.length:=by omega
 have lj:j<G.length:=by omega
 rw[List.getD,List.getD,List.getElem?_eq_getElem li,List.getElem?_eq_getElem lj] at he;have:=(List.getElem_inj hnd).1 (by simpa using he);omega
end Go.Proofs.YtnjcpljhmhdhkaaGreat
