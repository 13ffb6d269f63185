/- part 3 -/
import Derived.Test.YtnjcpljhmhdhkaaGreatTPk2
import Derived.Deep.Slices
import Derived.Deep.Fields
import Derived.ChangeSame
import Derived.OwnWalk
import Derived.StillTailTactics
import Derived.ChangeSlices
import Derived.Lib.SmallJoins
set_option linter.unusedSimpArgs false
set_option linter.unusedVariables false
set_option maxRecDepth 100000
set_option maxHeartbeats 4000000
namespace Go.Proofs.YtnjcpljhmhdhkaaGreat
open Go.ChangeShapes Go.WideShapes Go.RowKit
structure Dp where
 k:Int
 a:Int
 b:Int
def Dp.cs (r:Dp):List Value:=[.int .i64 r.k,.int .i64 r.a,.int .i64 r.b]
def RDp (w:World) (v:Value) (l:List Dp):Prop:=RS w 3 v l.length (l.flatMap Dp.cs)
theorem RDp.below {w w':World} {v:Value} {l:List Dp} (h:RDp w v l) (hb:Below w.heap.size w w'):RDp w' v l:=RS.below h hb
theorem RDp.form {w:World} {v:Value} {l:List Dp} (h:RDp w v l):∃A c,v= .slice A l.length c∧l.length≤c∧l.length≤maxLen∧
  (0<l.length→∃b off,A=some ⟨b,off,none⟩∧b<w.heap.size∧∀k (hk:k<l.length),w.cell? ⟨b,off+k*3,none⟩=some (.int .i64 l[k].k)∧w.cell? ⟨b,off+k*3+1,none⟩=some (.int .i64 l[k].a)∧
   w.cell? ⟨b,off+k*3+2,none⟩=some (.int .i64 l[k].b)):=by
 obtain⟨_,A,c,hv,h1,h2,h3⟩:=h;refine⟨A,c,hv,h1,h2,fun hn=>?_⟩
 obtain⟨b,off,hA,hlt,hc⟩:=h3 hn;refine⟨b,off,hA,hlt,fun k hk=>?_⟩
 have g:=fun j hj=>qk Dp.cs 3 (fun _=>rfl) l k j hk hj
 refine⟨?_,?_,?_⟩
 ·exact hc (k*3+0) _ (by rw[g 0 (by omega)];rfl)
 ·have:=hc (k*3+1) _ (by rw[g 1 (by omega)];rfl);rwa [←Nat.add_assoc] at this
 ·have:=hc (k*3+2) _ (by rw[g 2 (by omega)];rfl);rwa [←Nat.add_assoc] at this
theorem z2M (k a b:Int) (w:World):
  Calls Tryz.prog 170 #[.agg #[.int .i64 k,.int .i64 a,.int .i64 b]] w fun e w'=>e= .returned (.agg #[.int .i64 k,.int .i64 a,.int .i64 b])∧Below w.heap.size w w':=by
 go_enter Tryz.func170,Tryz.ntmps170
 go_wp2;exact bodyPost_ret (v:= .agg #[.int .i64 k,.int .i64 a,.int .i64 b]) (by simp[results,Tryz.results170,go_sem]) rfl ⟨rfl,by exact bel_⟩
section
variable {H:Type} {enc:TypeId×Value→H} {w:World} {base:Nat} {spare:Nat→Bool} {held:Bool}
theorem Xi {n:Nat} {A:Option Addr} {len cap:Nat} {x:DataW H×List MemPlace} (hf:DataW.trod enc Tryz.prog w base spare held n 59 [.slice A len cap]=some x):
  ∃l:List Dp,RDp w (.slice A len cap) l:=by
 obtain⟨f,hlc,hm,hc⟩:=z2T Tryz.underlying59 Tryz.underlying165 (by kernel_rfl) (by kernel_rfl) (by decide) (fun j g hj=>by
  match j,hj with
  |0,hj=>cases hj;exact Tryz.underlying3
  |1,hj=>cases hj;exact Tryz.underlying3
  |2,hj=>cases hj;exact Tryz.underlying3
  |j+3,hj=>simp at hj) (by simpa[Value.cells] using hf)
 refine⟨(List.range len).map fun i=>⟨f (i*3+0),f (i*3+1),f (i*3+2)⟩,?_,A,cap,by simp,by simpa using hlc,by simpa using hm,fun hpos=>?_⟩
 ·rw[zS Dp.cs 3 (fun _=>rfl)]
 ·obtain⟨b,off,hA,hb,hcell⟩:=hc (by simpa using hpos)
  refine⟨b,off,hA,hb,fun j u hu=>?_⟩
  have hj:j<len*3:=by
   have:=(List.getElem?_eq_some_iff.1 hu).1;rw[zS Dp.cs 3 (fun _=>rfl)] at this
   simpa using this
  have hq:j/3<len:=by omega
  have hr:j%3<3:=by omega
  have e:j/3*3+j%3=j:=by omega
  have h1:=hcell (j/3) (j%3) hq hr;have h2:=qk Dp.cs 3 (fun _=>rfl) ((List.range len).map fun i=>(⟨f (i*3+0),f (i*3+1),f (i*3+2)⟩:Dp)) (j/3) (j%3) (by simpa using hq) hr;rw[e,hu] at h2
  show w.cell? ⟨b,off+j,none⟩=some u
  have e':off+j=off+(j/3*3+j%3):=by omega
  rw[e',h2];refine Eq.trans h1 ?_
  have:j%3=0∨j%3=1∨j%3=2:=by omega
  rcases this with h|h|h<;>rw[h]<;>simp[Dp.cs]
end
theorem ZU (v:Value) (l:List Dp) (n:Int) (w:World) (h:RDp w v l) (h0:0≤n) (h1:n≤1000000000):
  Calls Tryz.prog 92 #[v,.int .i64 n] w fun e w'=>e= .returned (.int .i64 (szF n l.length))∧w=w':=by
 obtain⟨A,c,rfl,hc,hm,hcell⟩:=h.form;unfold maxLen at hm;clear h hcell
 by_cases hlt:n<l.length
 ·have hneg:n -(l.length:Int)<0:=by omega
  have HF:Hid (szF n l.length= -1):=Lib.hid (by unfold szF;rw[if_pos hlt])
  go_enter Tryz.func92,Tryz.ntmps92
  go_wp2
  all_goals go_ret
  all_goals exact⟨ze HF.out.symm,rfl⟩
 ·have hneg:¬n -(l.length:Int)<0:=by omega
  have HF:Hid (szF n l.length=n -l.length):=Lib.hid (by unfold szF;rw[if_neg hlt])
  go_enter Tryz.func92,Tryz.ntmps92
  go_wp2
  all_goals go_ret
  all_goals exact⟨ze HF.out.symm,rfl⟩
theorem kJ:(Tryz.prog.info? 48).map (fun i=>(i.zero,i.size,i.bytes))=some (some (.agg #[.int .i64 0,.int .i64 0,.int .i64 0]),3,24):=by kernel_rfl
def yU (l:List Dp) (k:Nat):List Value:=(l.take k).flatMap Dp.cs++List.replicate ((l.length -k)*3) (.int .i64 0)
theorem z1X (l:List Dp):yU l l.length=l.flatMap Dp.cs:=by simp[yU]
theorem z1M (l:List Dp) (k j:Nat) (h:k<l.length) (hj:j<3):(yU l k)[k*3+j]? =some (.int .i64 0):=by
 unfold yU;have hl:((l.take k).flatMap Dp.cs).length =k*3:=by rw[zS Dp.cs 3 (fun _=>rfl),List.length_take,Nat.min_eq_left (by omega)]
 rw[List.getElem?_append_right (by omega),hl,Nat.add_sub_cancel_left,List.getElem?_replicate,if_pos];have:1*3≤(l.length -k)*3:=Nat.mul_le_mul_right _ (by omega);omega
theorem XB (l:List Dp) (k:Nat) (h:k<l.length):
  yU l (k+1)=((((yU l k).set (k*3) (.int .i64 l[k].k)).set (k*3+1) (.int .i64 l[k].a)).set (k*3+2) (.int .i64 l[k].b)):=by
 unfold yU;have hl:((l.take k).flatMap Dp.cs).length =k*3:=by rw[zS Dp.cs 3 (fun _=>rfl),List.length_take,Nat.min_eq_left (by omega)]
 have hr:(l.length -k)*3=(l.length -(k+1))*3+1+1+1:=by
  have:l.length -k=(l.length -(k+1))+1:=by omega
  rw[this,Nat.add_mul]
 rw[List.take_succ_eq_append_getElem h,List.flatMap_append,hr]
 have e0:∀(x:List Value) (y:List Value) (n j:Nat) (u:Value),x.length=n→(x++y).set (n+j) u=x++y.set j u:=by
  intro x y n j u hx;rw[List.set_append,if_neg (by omega),hx,Nat.add_sub_cancel_left]
 rw[show k*3=k*3+0 from rfl,e0 _ _ _ 0 _ hl,Nat.add_zero,e0 _ _ _ 1 _ hl,e0 _ _ _ 2 _ hl];simp[List.replicate_succ,Dp.cs]
theorem made3d (n:Nat):(madeCells #[.int .i64 0,.int .i64 0,.int .i64 0] n).toList =List.replicate n (.int .i64 0):=by
 apply List.ext_getElem?
 intro j
 by_cases hj:j<n
 ·simp only[madeCells,Array.toList_map,List.getElem?_map,Array.toList_range,List.getElem?_range hj,List.getElem?_replicate,if_pos hj,Option.map_some]
  congr 1
  have:j%3=0∨j%3=1∨j%3=2:=by omega
  show #[Value.int .i64 0,.int .i64 0,.int .i64 0][j%3]! =_
  rcases this with h|h|h<;>rw[h]<;>rfl
 ·simp[madeCells,hj]
def zH (base:Nat) (w:World) (v:Value) (l:List Dp):Prop:=w.ownsRow base 48 3 v l.length (l.flatMap Dp.cs)
theorem zH.reads {base:Nat} {w:World} {v:Value} {l:List Dp} (h:zH base w v l):RDp w v l:=kG h
theorem zH.kept {base:Nat} {w w':World} {v:Value} {l:List Dp} (h:zH base w v l) (hb:Below w.heap.size w w'):zH base w' v l:=zX h hb
def z5C (l:List Dp) (w:World) (e:Ending) (w':World):Prop:=∃v,e= .returned v∧zH w.heap.size w' v l∧Below w.heap.size w w'
theorem ZY (v:Value) (l:List Dp) (w:World) (h:RDp w v l) (hle:l.length≤1048576):
  Calls Tryz.prog 95 #[v] w (z5C l w):=by
 obtain⟨A,c,rfl,hc,hm,hcell⟩:=h.form;clear h hm;obtain⟨i0,hi,hz0,hz1,hz2⟩:=info_parts kJ
 go_enter Tryz.func95,Tryz.ntmps95
 go_wp2_with (at_make;refine wpList_make_full _ rfl _ _ 32 rfl w.heap.size 48 i0 (.agg #[.int .i64 0,.int .i64 0,.int .i64 0]) 3 Tryz.underlying32 hi hz0 hz1 .i64 .i64 _ _ l.length rfl rfl rfl rfl (by rw[hz2];omega) (by unfold maxLen;omega) (Nat.le_refl _) ?_)
 intro w1 hown1 hgr1;have hb1:Below w.heap.size w w1:=(Below.refl _ _).grown hgr1 (Nat.le_refl _) (by intro k hk;cases hk)
 have hown:w1.ownsRow w.heap.size 48 3 (.slice (some ⟨w.heap.size,0,none⟩) l.length l.length) l.length (yU l 0):=by
  rw[made3d] at hown1
  simpa[yU] using hown1
 have hw1:w.heap.size≤w1.heap.size:=hb1.size;clear hown1 hgr1 hz0 hz1 hz2 hi;go_wp2
 go_loopw [4] (fun i wr=>∃k:Nat,k≤l.length∧i= .int .i64 k∧wr.ownsRow w.heap.size 48 3 (.slice (some ⟨w.heap.size,0,none⟩) l.length l.length) l.length (yU l k)∧Below w.heap.size w wr) (fun i _=>l.length -(intOf i).toNat)
 case atStart=>exact⟨0,Nat.zero_le _,rfl,hown,hb1⟩
 case round=>
  obtain⟨k,hk,rfl,ho,hbl⟩:=hrel;have hsz:=hbl.size;clear hown hb1 hw1
  by_cases hlt:k<l.length
  ·obtain⟨b,off,rfl,hb,hcl⟩:=hcell (by omega)
   obtain⟨k0,k1,k2⟩:=hcl k hlt;have q0:=(hbl.cell (p:=⟨b,off+k*3,none⟩) hb).trans k0;have q1:=(hbl.cell (p:=⟨b,off+k*3+1,none⟩) hb).trans k1;have q2:=(hbl.cell (p:=⟨b,off+k*3+2,none⟩) hb).trans k2;clear k0 k1 k2 hcl hcell
   go_wp2_with fail
   refine(z2M _ _ _ _).mono ?_
   rintro e w2 ⟨rfl,hb2⟩;have ho2:=zX ho hb2;have hsz2:=hb2.size;have hbl2:Below w.heap.size w w2:=by exact bel_
   have x0:=ho2.cellAt (k*3+0) (by omega);have x1:=ho2.cellAt (k*3+1) (by omega);have x2:=ho2.cellAt (k*3+2) (by omega);have f0:=ho2.frozenAt (k*3);have f1:=ho2.frozenAt (k*3+1);have f2:=ho2.frozenAt (k*3+2);rw[z1M l k _ hlt (by omega)] at x0 x1 x2;rw[Nat.add_zero] at x0;have s1:=(ho2.stored (k*3) (.int .i64 l[k].k)).1;have s2:=(s1.stored (k*3+1) (.int .i64 l[k].a)).1;have s3:=(s2.stored (k*3+2) (.int .i64 l[k].b)).1;rw[←XB l k hlt] at s3;have HB:=((hbl2.setCell (p:=⟨w.heap.size,k*3,none⟩) (Nat.le_refl _) (.int .i64 l[k].k)).setCell (p:=⟨w.heap.size,k*3+1,none⟩) (Nat.le_refl _) (.int .i64 l[k].a)).setCell (p:=⟨w.heap.size,k*3+2,none⟩) (Nat.le_refl _) (.int .i64 l[k].b);have HS:=Lib.hid s3;have HBL:=Lib.hid HB;clear s1 s2 s3 HB hbl2 ho2 ho hb2 hbl;go_wp2;go_roundw
   case rel=>exact⟨k+1,by omega,by go_num,HS.out,HBL.out⟩
   case measure=>simp[intOf];omega
  ·have hkk:k=l.length:=by omega
   subst hkk;rw[z1X] at ho;have HO:=Lib.hid ho;have HB:=Lib.hid hbl;clear ho hbl hcell;go_wp2;go_ret
   exact⟨_,rfl,HO.out,HB.out⟩
theorem z3a (a b c a' b' c':Int) (w:World):
  Calls Tryz.prog 174 #[.agg #[.int .i64 a,.int .i64 b,.int .i64 c],.agg #[.int .i64 a',.int .i64 b',.int .i64 c']] w
   fun e w'=>e= .returned (.bool (a==a'&&b==b'&&c==c'))∧Below w.heap.size w w':=by
 go_enter Tryz.func174,Tryz.ntmps174
 go_wp2
 all_goals go_ret
 all_goals refine⟨za ?_,by exact bel_⟩
 all_goals simp_all
theorem Dp.beq_self (r:Dp):(r.k==r.k&&r.a==r.a&&r.b==r.b)=true:=by simp
theorem ZI (v u:Value) (l:List Dp) (w:World) (hv:RDp w v l) (hu:RDp w u l):
  Calls Tryz.prog 98 #[v,u] w fun e w'=>e= .returned (.bool true)∧Below w.heap.size w w':=by
 obtain⟨A,c,rfl,hc,hm,hcell⟩:=hv.form;obtain⟨A',c',rfl,hc',hm',hcell'⟩:=hu.form;unfold maxLen at hm hm';clear hv hu
 go_enter Tryz.func98,Tryz.ntmps98
 go_wp2
 go_loopw [5] (fun i wr=>∃k:Nat,k≤l.length∧i= .int .i64 k∧Below w.heap.size w wr) (fun i _=>l.length -(intOf i).toNat)
 case atStart=>exact⟨0,Nat.zero_le _,rfl,Below.refl _ _⟩
 case round=>
  obtain⟨k,hk,rfl,hbl⟩:=hrel;have hsz:=hbl.size
  by_cases hlt:k<l.length
  ·obtain⟨b,off,rfl,hb,hcl⟩:=hcell (by omega)
   obtain⟨k0,k1,k2⟩:=hcl k hlt;have q0:=(hbl.cell (p:=⟨b,off+k*3,none⟩) hb).trans k0;have q1:=(hbl.cell (p:=⟨b,off+k*3+1,none⟩) hb).trans k1;have q2:=(hbl.cell (p:=⟨b,off+k*3+2,none⟩) hb).trans k2;obtain⟨b',off',rfl,hb',hcl'⟩:=hcell' (by omega);obtain⟨j0,j1,j2⟩:=hcl' k hlt;have p0:=(hbl.cell (p:=⟨b',off'+k*3,none⟩) hb').trans j0;have p1:=(hbl.cell (p:=⟨b',off'+k*3+1,none⟩) hb').trans j1;have p2:=(hbl.cell (p:=⟨b',off'+k*3+2,none⟩) hb').trans j2;have hi1:(0:Int)≤(k:Int):=by omega
   have hi2:(k:Int)<(l.length:Int):=by omega
   clear k0 k1 k2 hcl hcell j0 j1 j2 hcl' hcell';go_wp2
   go_still_tail 8,(by kernel_rfl)
   go_wp2_with fail
   refine(z3a _ _ _ _ _ _ _).mono ?_
   rw[Dp.beq_self];rintro e w2 ⟨rfl,hb2⟩;have hbl2:Below w.heap.size w w2:=hbl.trans ((show Below wr.heap.size wr w2 from⟨hb2.os,hb2.tape,hb2.output,hb2.size,hb2.block⟩).mono hsz);clear hb2;go_wp2;go_roundw
   case rel=>exact⟨k+1,by omega,by go_num,hbl2⟩
   case measure=>simp[intOf];omega
  ·go_wp2
   go_ret
   exact⟨rfl,hbl⟩
theorem zH.nil (base:Nat) (w:World):zH base w (.slice none 0 0) []:=World.ownsRow_nil _ _ _ _
open Go.RowKit
theorem vi {P:Program} {w:World} {t ty e:TypeId} {i:TypeInfo} {base:Nat} {z:Value} {sz by_:Nat} (ht:P.underlying t=some (.slice e)) (hi:P.info? e=some i) (hz:i.zero=some z) (hsize:i.size=sz) (hby:i.bytes=by_) (hzs:z.cells.size=sz) (hsz:0<sz)
  {v u:Value} {n m:Nat} {xs l:List Value} (hown:w.ownsRow base e sz v n xs) (hr:RS w sz u m l) (hone:∀x∈l,x.oneCell'=true) (hlen:n+m≤1048576+1048576) (hbb:by_≤100) (hbase:base≤w.heap.size):
  ∃A c w',(Builtin.append_ #[t,t] ty #[v,u]).run P w= .ok (.slice A (n+m) c) w'∧w'.ownsRow base e sz (.slice A (n+m) c) (n+m) (xs++l)∧w.grownBy w' v.ownBlock∧
   ((Value.slice A (n+m) c).ownBlock =v.ownBlock∨(Value.slice A (n+m) c).ownBlock =some w.heap.size):=by
 have hform:∀ {w0:World} {v0:Value} {n0:Nat} {xs0:List Value},w0.ownsRow base e sz v0 n0 xs0→∃A c,v0= .slice A n0 c∧n0≤c:=by
  intro w0 v0 n0 xs0 h
  rcases h.2 with ⟨rfl,hn⟩|⟨g,cap,cur,rfl,_,_,hnc,_⟩
  ·exact⟨none,0,by rw[hn],by omega⟩
  ·exact⟨_,cap,rfl,hnc⟩
 obtain⟨hll,A,c,rfl,hc,hm,hcell⟩:=hr
 cases A with
 |none=>
  have hm0:m=0:=by
   rcases Nat.eq_zero_or_pos m with h|h
   ·exact h
   ·obtain⟨b,off,h1,_⟩:=hcell h
    cases h1
  subst hm0;have hl:l=[]:=List.eq_nil_of_length_eq_zero (by omega);subst hl;obtain⟨A,cp,rfl,hcp⟩:=hform hown;refine⟨A,cp,w,?_,by rw[List.append_nil];exact hown,World.grownBy.refl _ _,.inl rfl⟩
  exact yg ht hi A _ cp c hcp
 |some a=>
  have hn:∀(j:Nat) (x:Value),l[j]? =some x→w.cell? (a.add j)=some x:=by
   intro j x hx;have hj:=(List.getElem?_eq_some_iff.1 hx).1
   have hm1:0<m:=by
    rcases Nat.eq_zero_or_pos m with h|h
    ·subst h;omega
    ·exact h
   obtain⟨b,off,e5,_,e6⟩:=hcell hm1
   cases e5
   rw[ku];exact e6 j x hx
  have hbm:(n+m)*by_≤(1048576+1048576)*100:=Nat.mul_le_mul hlen hbb;obtain⟨v',w',h1,h2,h3,_,h5⟩:=run_append_own_at (P:=P) w base t ty e i z sz by_ ht hi hz hsize hby hzs hsz v n xs hown a m c l hll hn hone (by unfold maxLen;omega) (by omega) hbase;obtain⟨A',c',rfl,_⟩:=hform h2;exact⟨A',c',w',h1,h2,h3,h5⟩
theorem jo {P:Program} {w:World} {ops:Array Oper} {rest:List Oper} {o:Oper} {a:Act} {Q:Exit→Act→World→Prop} (hgd:o.guard=none) (s x:Operand) (t:TypeId)
  (ho:o.op= .call { callee:= .builtin .append,args:= #[s,x],argTypes:= #[t,t] })
  (base:Nat) (e:TypeId) (i:TypeInfo) (z:Value) (sz by_:Nat) (ht:P.underlying t=some (.slice e)) (hi:P.info? e=some i) (hz:i.zero=some z) (hsize:i.size=sz) (hby:i.bytes=by_) (hzs:z.cells.size=sz) (hsz:0<sz)
  (v u:Value) (n m:Nat) (xs l:List Value) (hs:a.eval s=v) (hx:a.eval x=u) (hown:w.ownsRow base e sz v n xs) (hr:RS w sz u m l) (hone:∀x∈l,x.oneCell'=true) (hlen:n+m≤1048576+1048576) (hbb:by_≤100) (hbase:base≤w.heap.size)
  (h:∀A c w',w'.ownsRow base e sz (.slice A (n+m) c) (n+m) (xs++l)→w.grownBy w' v.ownBlock→((Value.slice A (n+m) c).ownBlock =v.ownBlock∨(Value.slice A (n+m) c).ownBlock =some w.heap.size)→wpList P ops Q rest (a.put o.dst (.slice A (n+m) c)) w'):
  wpList P ops Q (o::rest) a w:=
 wpList_plain hgd fun K hK=>by
  obtain⟨A,c,w',hrun,h2,h3,h4⟩:=vi (ty:=o.type) ht hi hz hsize hby hzs hsz hown hr hone hlen hbb hbase;unfold Oper.wp execOp;simp only[ho,resolve,invoke,builtin,Sem.run_bind,Sem.run_pure,Result.andThen_ok,List.map_toArray,List.map_cons,List.map_nil,hs,hx,hrun]
  exact hK _ _ (h A c w' h2 h3 h4)
theorem k6 {P:Program} {w:World} {ops:Array Oper} {o:Oper} {a:Act} {K:Act→World→Prop} {Q:Exit→Act→World→Prop} {E:Prop} (hgd:o.guard=none) (s x:Operand) (t:TypeId)
  (ho:o.op= .call { callee:= .builtin .append,args:= #[s,x],argTypes:= #[t,t] })
  (base:Nat) (e:TypeId) (i:TypeInfo) (z:Value) (sz by_:Nat) (ht:P.underlying t=some (.slice e)) (hi:P.info? e=some i) (hz:i.zero=some z) (hsize:i.size=sz) (hby:i.bytes=by_) (hzs:z.cells.size=sz) (hsz:0<sz)
  (v u:Value) (n m:Nat) (xs l:List Value) (hs:a.eval s=v) (hx:a.eval x=u) (hown:w.ownsRow base e sz v n xs) (hr:RS w sz u m l) (hone:∀x∈l,x.oneCell'=true) (hlen:n+m≤1048576+1048576) (hbb:by_≤100) (hbase:base≤w.heap.size)
  (h:∀A c w',w'.ownsRow base e sz (.slice A (n+m) c) (n+m) (xs++l)→w.grownBy w' v.ownBlock→((Value.slice A (n+m) c).ownBlock =v.ownBlock∨(Value.slice A (n+m) c).ownBlock =some w.heap.size)→K (a.put o.dst (.slice A (n+m) c)) w'):
  if Region.wanted o (yielded ops a.tmps)=true then Oper.wp P o a w K Q else E:=by
 have hw:Region.wanted o (yielded ops a.tmps)=true:=by simp[Region.wanted,hgd]
 rw[if_pos hw];obtain⟨A,c,w',hrun,h2,h3,h4⟩:=vi (ty:=o.type) ht hi hz hsize hby hzs hsz hown hr hone hlen hbb hbase;unfold Oper.wp execOp;simp only[ho,resolve,invoke,builtin,Sem.run_bind,Sem.run_pure,Result.andThen_ok,List.map_toArray,List.map_cons,List.map_nil,hs,hx,hrun]
 exact h A c w' h2 h3 h4
theorem kj (zs:List Int):∀x∈zs.map vI,x.oneCell'=true:=by
 intro x hx;rw[List.mem_map] at hx;obtain⟨z,_,rfl⟩:=hx;rfl
theorem jO (l:List Dp):∀x∈l.flatMap Dp.cs,x.oneCell'=true:=by
 intro x hx;rw[List.mem_flatMap] at hx;obtain⟨d,_,hd⟩:=hx;simp only[Dp.cs,List.mem_cons,List.mem_nil_iff,or_false] at hd
 rcases hd with rfl|rfl|rfl<;>rfl
theorem Ju (v:Value) (zs:List Int) (w:World) (h:RI w v zs) (hle:zs.length≤1048576):
  Calls Tryz.prog 133 #[v] w (RetI zs w):=by
 obtain⟨i0,hi,iz0,iz1,iz2⟩:=info_parts qu;have HR:=Lib.hid h;clear h
 go_enter Tryz.func133,Tryz.ntmps133
 go_wp2_with (at_builtin;refine jo rfl _ _ _ rfl w.heap.size 3 i0 (.int .i64 0) 1 8 Tryz.underlying31 hi iz0 iz1 iz2 rfl (by decide) (.slice none 0 0) v 0 zs.length [] (zs.map vI) rfl rfl (World.ownsRow_nil _ _ _ _) HR.out (kj zs) (by omega) (by decide) (Nat.le_refl _) ?_)
 intro A c w1 ho hg ha;have hb:=vw hg;have HO:Hid (OwnI w.heap.size w1 (.slice A zs.length c) zs):=Lib.hid ho;clear ho hg ha;go_wp2;go_ret
 exact⟨_,rfl,HO.out,hb⟩
theorem z4t:(Tryz.prog.info? 48).map (fun i=>(i.zero,i.size,i.bytes))=some (some (.agg #[.int .i64 0,.int .i64 0,.int .i64 0]),3,24):=kJ
theorem jZ (v:Value) (l:List Dp) (w:World) (h:RDp w v l) (hle:l.length≤1048576):
  Calls Tryz.prog 134 #[v] w (z5C l w):=by
 obtain⟨i0,hi,iz0,iz1,iz2⟩:=info_parts kJ;have HR:=Lib.hid h;clear h
 go_enter Tryz.func134,Tryz.ntmps134
 go_wp2_with (at_builtin;refine jo rfl _ _ _ rfl w.heap.size 48 i0 (.agg #[.int .i64 0,.int .i64 0,.int .i64 0]) 3 24 Tryz.underlying32 hi iz0 iz1 iz2 rfl (by decide) (.slice none 0 0) v 0 l.length [] (l.flatMap Dp.cs) rfl rfl (World.ownsRow_nil _ _ _ _) HR.out (jO l) (by omega) (by decide) (Nat.le_refl _) ?_)
 intro A c w1 ho hg ha;have hb:=vw hg;have HO:Hid (zH w.heap.size w1 (.slice A l.length c) l):=Lib.hid ho;clear ho hg ha;go_wp2;go_ret
 exact⟨_,rfl,HO.out,hb⟩
open Go.ChangeShapes Go.WideShapes Go.Deep Go.RowKit Go.Joins
section
variable {H:Type} {enc:TypeId×Value→H} {P:Program} {w:World} {base:Nat} {spare:Nat→Bool} {held:Bool}
theorem QW {t e:TypeId} {fs:Array Field} {fuel:Nat} {cs:List Value} {x:DataW H×List MemPlace} (ht:P.underlying t=some (.slice e)) (he:P.underlying e=some (.struct fs))
  (hone:oneCellFields P fs=true) (hC:P.cellsOf e=fs.size) (h:DataW.trod enc P w base spare held fuel t cs=some x):
  (cs=[.slice none 0 0]∧x=(.nil,[]))∨
  ∃(a:Addr) (len cap m:Nat) (D:Nat→DataW H) (Pl:Nat→List MemPlace),cs=[.slice (some a) len cap]∧base≤a.block∧len≤cap∧cap≤maxLen∧m=(if spare a.block then cap else len)∧
   x=(.slice ((List.range len).map D) ((List.range (m -len)).map fun j=>D (len+j)),MemPlace.row a (m*fs.size)++(List.range m).flatMap Pl)∧
   ∀i,i<m→∃(ys:List (DataW H×List MemPlace)) (n:Nat),D i= .agg (ys.map (·.1))∧Pl i=ys.flatMap (·.2)∧ys.length=fs.size∧
    ∀(j:Nat) (f:Field),fs[j]? =some f→∃(v:Value) (y:DataW H×List MemPlace),w.cell? (a.add (i*fs.size+j))=some v∧ys[j]? =some y∧DataW.trod enc P w base spare held n f.type [v]=some y:=by
 rcases open_slice ht h with h0|⟨a,len,cap,m,n,D,Pl,hcs,hb,hl,hm,hmm,hx,hi⟩
 ·exact .inl h0
 ·refine .inr ⟨a,len,cap,m,D,Pl,hcs,hb,hl,hm,hmm,by rw[hC] at hx;exact hx,fun i him=>?_⟩
  obtain⟨cs',hc,ht'⟩:=hi i him;rw[hC] at hc;obtain⟨ys,n',hn',hy,hlen,hyl,hf⟩:=DataW.trod_struct he ht';obtain⟨_,hcl,hat⟩:=World.cells?_some hc;simp only[Prod.mk.injEq] at hy
  refine⟨ys,n',hy.1,hy.2,hyl,fun j f hj=>?_⟩
  obtain⟨ho,hk⟩:=hone_of hone j f hj;have hjl:j<fs.size:=(Array.getElem?_eq_some_iff.1 hj).1;have hcell:=hat j hjl;have hv:cs'[j]? =some (cs'[j]'(by omega)):=List.getElem?_eq_getElem (by omega);have h1:=hf j f hj;rw[ho,hk] at h1
  have hone':(cs'.drop j).take 1=[cs'[j]'(by omega)]:=by
   rw[List.drop_eq_getElem_cons (by omega)];rfl
  rw[hone'] at h1;have hys:ys[j]? =some (ys[j]'(by omega)):=List.getElem?_eq_getElem (by omega);refine⟨_,_,?_,hys,h1.trans hys⟩
  rw[←Go.Deep.add_add,hcell,hv]
theorem Zl {t e:TypeId} {f0 f1:Field} {fuel:Nat} {v:Value} {x:DataW H×List MemPlace} (ht:P.underlying t=some (.slice e)) (he:P.underlying e=some (.struct #[f0,f1]))
  (hone:oneCellFields P #[f0,f1]=true) (hC:P.cellsOf e=2) (h0:P.underlying f0.type=some (.int .i64)) (h1:P.underlying f1.type=some (.int .i64))
  (h:DataW.trod enc P w base spare held fuel t [v]=some x):∃l:List (Int×Int),RP w v l:=by
 rcases QW ht he hone hC h with ⟨hcs,_⟩|⟨a,len,cap,m,D,Pl,hcs,hb,hl,hm,hmm,hx,hi⟩
 ·simp only[List.cons.injEq,and_true] at hcs
  subst hcs;exact⟨[],RP.nil w⟩
 ·simp only[List.cons.injEq,and_true] at hcs
  subst hcs;have hlm:len≤m:=by rw[hmm];split<;>omega
  have key:∀i,i<len→∃x y:Int,w.cell? (a.add (i*2))=some (.int .i64 x)∧w.cell? (a.add (i*2+1))=some (.int .i64 y):=by
   intro i hil;obtain⟨ys,n,_,_,_,hf⟩:=hi i (by omega);obtain⟨v0,y0,c0,_,t0⟩:=hf 0 f0 rfl;obtain⟨v1,y1,c1,_,t1⟩:=hf 1 f1 rfl;obtain⟨q0,e0,_,_⟩:=DataW.trod_int h0 t0;obtain⟨q1,e1,_,_⟩:=DataW.trod_int h1 t1;simp at e0 e1
   subst e0 e1;exact⟨q0,q1,by simpa using c0,by simpa using c1⟩
  let F:Nat→Int×Int:=fun i=>(intOf ((w.cell? (a.add (i*2))).getD undef),intOf ((w.cell? (a.add (i*2+1))).getD undef))
  refine⟨(List.range len).map F,?_,some a,cap,by simp,by simpa using hl,by simp;omega,fun hpos=>?_⟩
  ·rw[zS prc 2 (fun _=>rfl)]
  ·have hpos':0<len:=by simpa using hpos
   obtain⟨x0,y0,hx0,_⟩:=key 0 hpos'
   have hsp:a.spot=none:=by
    cases hs:a.spot with
    |none=>rfl
    |some s=>
     have e0:a.add (0*2)=a:=by simp[Addr.add]
     rw[e0] at hx0;unfold World.cell? at hx0
     split at hx0
     ·rw[hs] at hx0;simp at hx0
     ·cases hx0
   obtain⟨b,off,sp⟩:=a;simp at hsp
   subst hsp
   have hadd:∀k,(⟨b,off,none⟩:Addr).add k=⟨b,off+k,none⟩:=by
    intro k;unfold Addr.add
    split<;>simp_all
   refine⟨b,off,rfl,?_,fun j u hu=>?_⟩
   ·have:=World.block_lt_of_cell? w _ hx0
    rw[hadd] at this;exact this
   ·have hj:j<len*2:=by
     have:=(List.getElem?_eq_some_iff.1 hu).1;rw[zS prc 2 (fun _=>rfl)] at this
     simpa using this
    obtain⟨x,y,hcx,hcy⟩:=key (j/2) (by omega);have h2:=qk prc 2 (fun _=>rfl) ((List.range len).map F) (j/2) (j%2) (by simp;omega) (by omega);rw[show j/2*2+j%2=j by omega,hu] at h2;rw[hadd] at hcx hcy
    have hF:F (j/2)=(x,y):=by
     show(intOf ((w.cell? ((⟨b,off,none⟩:Addr).add (j/2*2))).getD undef),intOf ((w.cell? ((⟨b,off,none⟩:Addr).add (j/2*2+1))).getD undef))=_
     rw[hadd,hadd,hcx,hcy];rfl
    have:j%2=0∨j%2=1:=by omega
    rcases this with h|h
    ·rw[h] at h2
     simp only[List.getElem_map,List.getElem_range,hF,prc,List.getElem?_cons_zero] at h2
     rw[h2,show off+j=off+j/2*2 by omega];exact hcx
    ·rw[h] at h2
     simp only[List.getElem_map,List.getElem_range,hF,prc,List.getElem?_cons_succ,List.getElem?_cons_zero] at h2
     rw[h2,show off+j=off+(j/2*2+1) by omega];exact hcy
end
section
variable {H:Type} {enc:TypeId×Value→H} {w:World} {base:Nat} {spare:Nat→Bool} {held:Bool}
end
end Go.Proofs.YtnjcpljhmhdhkaaGreat
