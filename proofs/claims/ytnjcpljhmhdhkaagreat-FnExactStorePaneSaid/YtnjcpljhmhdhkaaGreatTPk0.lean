/- part 0 -/
import Derived.WalkKit
import Derived.WalkSpells
import Derived.WalkLawsBesides
import Derived.Lib.Hide
import Derived.Deep.AppendLies
import Derived.Deep.Draws
import Derived.Test.YtnjcpljhmhdhkaaGreatProg
import Derived.OwnWalk
import Derived.Maps.AppendAt
import Derived.Deep.QuietTactic
import Derived.BigQuiet
import Derived.BigRegion
set_option linter.unusedSimpArgs false
set_option linter.unusedVariables false
set_option maxHeartbeats 2000000
namespace Go.Proofs.YtnjcpljhmhdhkaaGreat
open Go.RowKit
def vI (z:Int):Value:= .int .i64 z
def inB (x lo hi:Int):Bool:=decide (lo≤x∧x≤hi)
theorem zt {x lo hi:Int}:inB x lo hi=true↔lo≤x∧x≤hi:=by simp[inB]
theorem JS {x lo hi:Int}:inB x lo hi=false↔¬(lo≤x∧x≤hi):=by simp[inB]
def RS (w:World) (size:Nat) (v:Value) (n:Nat) (xs:List Value):Prop:=
 xs.length=n*size∧∃A c,v= .slice A n c∧n≤c∧n≤maxLen∧
  (0<n→∃b off,A=some ⟨b,off,none⟩∧b<w.heap.size∧∀j u,xs[j]? =some u→w.cell? ⟨b,off+j,none⟩=some u)
theorem RS.nil (w:World) (size:Nat):RS w size (.slice none 0 0) 0 []:=⟨by simp,none,0,rfl,by omega,by simp[maxLen],fun h=>absurd h (by omega)⟩
theorem RS.below {w w':World} {size n:Nat} {v:Value} {xs:List Value} (h:RS w size v n xs) (hb:Below w.heap.size w w'):RS w' size v n xs:=by
 obtain⟨hl,A,c,hv,h1,h2,h3⟩:=h;refine⟨hl,A,c,hv,h1,h2,fun hn=>?_⟩
 obtain⟨b,off,hA,hlt,hc⟩:=h3 hn;exact⟨b,off,hA,Nat.lt_of_lt_of_le hlt hb.size,fun j u hu=>(hb.cell (p:=⟨b,off+j,none⟩) hlt).trans (hc j u hu)⟩
def RI (w:World) (v:Value) (zs:List Int):Prop:=RS w 1 v zs.length (zs.map vI)
theorem RI.below {w w':World} {v:Value} {zs:List Int} (h:RI w v zs) (hb:Below w.heap.size w w'):RI w' v zs:=RS.below h hb
theorem RI.form {w:World} {v:Value} {zs:List Int} (h:RI w v zs):∃A c,v= .slice A zs.length c∧zs.length≤c∧zs.length≤maxLen∧
  (0<zs.length→∃b off,A=some ⟨b,off,none⟩∧b<w.heap.size∧∀k,k<zs.length→w.cell? ⟨b,off+k,none⟩=some (.int .i64 (zs.getD k 0))):=by
 obtain⟨_,A,c,hv,h1,h2,h3⟩:=h;refine⟨A,c,hv,h1,h2,fun hn=>?_⟩
 obtain⟨b,off,hA,hlt,hc⟩:=h3 hn;refine⟨b,off,hA,hlt,fun k hk=>hc k _ ?_⟩
 rw[List.getElem?_map,List.getElem?_eq_getElem hk];simp[vI,List.getD,List.getElem?_eq_getElem hk]
theorem za {a b:Bool} (h:a=b):Ending.returned (.bool a)= .returned (.bool b):=by rw[h]
theorem ze {k:IntKind} {a b:Int} (h:a=b):Ending.returned (.int k a)= .returned (.int k b):=by rw[h]
theorem bcell {W w1:World} (hb:Below W.heap.size W w1):(∀b o,b<W.heap.size→w1.cell? ⟨b,o,none⟩=W.cell? ⟨b,o,none⟩)∧(∀b o,b<W.heap.size→w1.frozen? ⟨b,o,none⟩=W.frozen? ⟨b,o,none⟩):=
 ⟨fun b o h=>hb.cell (p:=⟨b,o,none⟩) h,fun b o h=>hb.frozen (p:=⟨b,o,none⟩) h⟩
theorem z8 {W w1:World} (hb:Below W.drew.heap.size W.drew w1):(∀b o,b<W.heap.size→w1.cell? ⟨b,o,none⟩=W.cell? ⟨b,o,none⟩)∧(∀b o,b<W.heap.size→w1.frozen? ⟨b,o,none⟩=W.frozen? ⟨b,o,none⟩):=bcell (W:=W.drew) hb
theorem k8 {B:Nat} {a w:World} (h:Below B a w) (n:Nat):Below B a (w.drewN n):=⟨h.os,h.tape,h.output,h.size,h.block⟩
theorem Below.step {B:Nat} {a w w':World} (h2:Below w.heap.size w w') (h:Below B a w) (hB:B≤w.heap.size):Below B a w':=h.trans (h2.mono hB)
theorem p0_ (w w1:World) (h:w.heap.size<w1.heap.size:=by omega):w.heap.size<w1.heap.size:=h
theorem p1_ (w w1:World) (h:w.heap.size+1<w1.heap.size:=by omega):w.heap.size+1<w1.heap.size:=h
theorem p2_ (w w1:World) (h:w.heap.size+1+1<w1.heap.size:=by omega):w.heap.size+1+1<w1.heap.size:=h
theorem p3_ (w w1:World) (h:w.heap.size+1+1+1<w1.heap.size:=by omega):w.heap.size+1+1+1<w1.heap.size:=h
theorem sz_ {P:Prop} (h:P:=by first|omega|(simp;done)|(simp;omega)):P:=h
theorem bel_ {P:Prop} (h:P:=by(repeat' (first|(with_reducible exact Below.refl _ _)|(with_reducible assumption)|(with_reducible refine Below.drew ?_)|(with_reducible refine k8 ?_ _)|(with_reducible refine Below.alloc ?_ ?_ _)|(with_reducible refine Below.setCell ?_ ?_ _)|(with_reducible refine Below.step (by assumption) ?_ ?_)));all_goals (first|omega|(simp;done)|(simp;omega))):P:=h
theorem qu:(Tryz.prog.info? 3).map (fun i=>(i.zero,i.size,i.bytes))=some (some (.int .i64 0),1,8):=by kernel_rfl
def OwnI (base:Nat) (w:World) (v:Value) (zs:List Int):Prop:=w.ownsRow base 3 1 v zs.length (zs.map vI)
theorem OwnI.nil (base:Nat) (w:World):OwnI base w (.slice none 0 0) []:=World.ownsRow_nil _ _ _ _
theorem OwnI.alloc {base:Nat} {w:World} {v:Value} {zs:List Int} (h:OwnI base w v zs) (o:Obj):OwnI base (w.alloc o) v zs:=World.ownsRow.alloc h o
theorem OwnI.kept {base:Nat} {w w':World} {v:Value} {zs:List Int} (h:OwnI base w v zs) (hb:Below w.heap.size w w'):OwnI base w' v zs:=by
 refine World.ownsRow.kept (row:=none) h ⟨hb.os,hb.tape,hb.output,hb.size,fun k hk _=>hb.block k hk⟩ ?_
 cases hv:v.ownBlock with
 |none=>exact .inl rfl
 |some k=>exact .inr (by simp)
theorem OwnI.mono {base base':Nat} {w:World} {v:Value} {zs:List Int} (h:OwnI base w v zs) (hb:base'≤base):OwnI base' w v zs:=by
 obtain⟨h1,h2⟩:=h;refine⟨h1,?_⟩
 rcases h2 with h2|⟨g,cap,cur,e1,e2,e3⟩
 ·exact .inl h2
 ·exact .inr ⟨g,cap,cur,e1,Nat.le_trans hb e2,e3⟩
theorem OwnI.lt {base:Nat} {w:World} {v:Value} {zs:List Int} (h:OwnI base w v zs):∀k,v.ownBlock=some k→base≤k∧k<w.heap.size:=World.ownsRow.lt h
theorem OwnI.reads {base:Nat} {w:World} {v:Value} {zs:List Int} (h:OwnI base w v zs):RI w v zs:=by
 obtain⟨h1,h2⟩:=h;refine⟨h1,?_⟩
 rcases h2 with ⟨rfl,hn⟩|⟨g,cap,cur,rfl,_,hh,hnc,hcm,hsz,hxs⟩
 ·exact⟨none,0,by rw[hn],by omega,by rw[hn];simp[maxLen],fun hp=>absurd hp (by omega)⟩
 ·refine⟨_,cap,rfl,hnc,by omega,fun hp=>⟨g,0,rfl,?_,fun j u hu=>?_⟩⟩
  ·rcases Nat.lt_or_ge g w.heap.size with hlt|hge
   ·exact hlt
   ·rw[Array.getElem?_eq_none hge] at hh;cases hh
  ·rw[Nat.zero_add,cell_of_row _ _ _ cur 3 (0,0) hh]
   rw[←hxs] at hu;rw[List.getElem?_take] at hu
   split at hu
   ·simpa using hu
   ·cases hu
theorem OwnI.snoc {base:Nat} {w:World} {v:Value} {zs:List Int} {x:Int} (h:w.ownsRow base 3 1 v (zs.length+1) (zs.map vI++[.int .i64 x])):OwnI base w v (zs++[x]):=by
 unfold OwnI;rw[List.length_append,List.map_append];exact h
def RetI (zs:List Int) (w:World) (e:Ending) (w':World):Prop:=∃v,e= .returned v∧OwnI w.heap.size w' v zs∧Below w.heap.size w w'
theorem jN {α:Type} [DecidableEq α] {l r:List α} {k:Nat} (h:l.take k=r.take k) (hl:k<l.length) (hr:k<r.length) (he:l[k]=r[k]):l.take (k+1)=r.take (k+1):=by
 rw[List.take_succ_eq_append_getElem hl,List.take_succ_eq_append_getElem hr,h,he]
theorem z21 (v u:Value) (zs ys:List Int) (w:World) (hv:RI w v zs) (hu:RI w u ys):
  Calls Tryz.prog 58 #[v,u] w fun e w'=>e= .returned (.bool (decide (zs=ys)))∧Below w.heap.size w w':=by
 obtain⟨A,c,rfl,hc,hm,hcell⟩:=hv.form;obtain⟨A',c',rfl,hc',hm',hcell'⟩:=hu.form;unfold maxLen at hm hm';clear hv hu
 by_cases hlen:zs.length=ys.length
 ·have e1:((zs.length:Int) != (ys.length:Int))=false:=by simp[hlen]
  have HLEN:=Lib.hid hlen;clear hlen
  go_enter Tryz.func58,Tryz.ntmps58
  go_wp2
  go_loopw [5] (fun i wr=>∃k:Nat,k≤zs.length∧i= .int .i64 k∧Hid (zs.take k=ys.take k)∧Below w.heap.size w wr) (fun i _=>zs.length -(intOf i).toNat)
  case atStart=>exact⟨0,Nat.zero_le _,rfl,Lib.hid (by simp),Below.refl _ _⟩
  case round=>
   obtain⟨k,hk,rfl,HT,hbl⟩:=hrel
   by_cases hlt:k<zs.length
   ·obtain⟨b,off,rfl,hb,hcl⟩:=hcell (by omega)
    have hlt':k<ys.length:=by rw[←HLEN.out];exact hlt
    obtain⟨b',off',rfl,hb',hcl'⟩:=hcell' (by omega);have hck:=(hbl.cell (p:=⟨b,off+k,none⟩) hb).trans (hcl k hlt);have hck':=(hbl.cell (p:=⟨b',off'+k,none⟩) hb').trans (hcl' k hlt');have hi1:(0:Int)≤(k:Int):=by omega
    have hi2:(k:Int)<(zs.length:Int):=by omega
    have hi3:(k:Int)<(ys.length:Int):=by omega
    clear hcl hcell hcl' hcell';have HX:=Lib.hid (show zs.getD k 0=zs[k] by simp[List.getD,List.getElem?_eq_getElem hlt]);have HY:=Lib.hid (show ys.getD k 0=ys[k] by simp[List.getD,List.getElem?_eq_getElem hlt']);generalize zs.getD k 0=x at*;generalize ys.getD k 0=y at*
    by_cases hxy:x=y
    ·have e2:(x != y)=false:=by simp[hxy]
     have HE:=Lib.hid hxy;clear hxy;go_wp2
     go_quiet (fail)
     go_wp2;go_roundw
     case rel=>exact⟨k+1,by omega,by go_num,Lib.hid (jN HT.out hlt hlt' (by rw[←HX.out,←HY.out,HE.out])),by exact bel_⟩
     case measure=>simp[intOf];omega
    ·have e2:(x != y)=true:=by simp[hxy]
     have HE:=Lib.hid hxy;clear hxy;go_wp2
     go_quiet (fail)
     go_wp2;go_ret
     refine⟨za ?_,by exact bel_⟩
     symm
     rw[decide_eq_false_iff_not];intro heq;exact HE.out (by rw[HX.out,HY.out];simp[heq])
   ·have hkk:zs.length≤k:=by omega
    have hke:zs=ys:=by
     have h:=HT.out;rw[List.take_of_length_le hkk,List.take_of_length_le (by rw[←HLEN.out];exact hkk)] at h;exact h
    have HE:=Lib.hid hke;clear hke hcell hcell';go_wp2;go_ret
    exact⟨za (by symm;simpa using HE.out),hbl⟩
 ·have e1:((zs.length:Int) != (ys.length:Int))=true:=by simp;omega
  have HE:Hid (¬zs=ys):=Lib.hid (fun h=>hlen (by rw[h]));have HLEN:=Lib.hid hlen;clear hlen
  go_enter Tryz.func58,Tryz.ntmps58
  go_wp2;go_ret
  exact⟨za (by symm;simpa using HE.out),Below.refl _ _⟩
def runI (a:Int) (n:Nat):List Int:=(List.range n).map fun (i:Nat)=>a+(i:Int)
theorem kr (a:Int) (n:Nat):(runI a n).length =n:=by simp[runI]
theorem z4z (a:Int) (n i:Nat) (h:i<n):(runI a n).getD i 0=a+i:=by simp[runI,List.getD,h]
def yi (a:Int) (zs:List Int) (k:Nat):List Int:=runI a k++zs.drop k
theorem xJ (a:Int) (zs:List Int) (k:Nat) (h:k≤zs.length):(yi a zs k).length =zs.length:=by simp[yi,kr];omega
theorem z1Z (a:Int) (zs:List Int):yi a zs 0=zs:=by simp[yi,runI]
theorem z2N (a:Int) (zs:List Int):yi a zs zs.length=runI a zs.length:=by simp[yi]
theorem z1I (a:Int) (zs:List Int) (k:Nat) (h:k<zs.length):yi a zs (k+1)=(yi a zs k).set k (a+k):=by
 unfold yi runI;rw[List.range_succ,List.map_append,List.set_append];simp only[List.map_cons,List.map_nil,List.length_map,List.length_range,Nat.lt_irrefl,if_false,Nat.sub_self,List.append_assoc,List.cons_append,List.nil_append]
 rw[List.drop_eq_getElem_cons h,List.set_cons_zero]
def Marks (base:Nat) (v:Value) (w:World) (r:Value) (zs:List Int) (e:Ending) (w':World):Prop:=
 e= .returned r∧OwnI base w' v zs∧w.grownBy w' v.ownBlock
theorem qA {a w:World} {g:Nat} (h:a.grownBy w (some g)) (j:Nat) (u:Value):a.grownBy (w.setCell ⟨g,j,none⟩ u) (some g):=
 ⟨h.os,h.tape,h.output,by simpa[World.setCell] using h.size,fun i hi hne=>(Below.heap_setCell w ⟨g,j,none⟩ u i (fun e=>hne (by rw[e]))).trans (h.block i hi hne)⟩
theorem Xf (base:Nat) (v:Value) (zs:List Int) (a:Int) (w:World) (h:OwnI base w v zs) (ha:0≤a) (hb:a+zs.length≤1000000000000):
  Calls Tryz.prog 62 #[v,.int .i64 a] w (Marks base v w (.int .i64 (a+zs.length)) (runI a zs.length)):=by
 rcases hcase:h.2 with ⟨rfl,hn⟩|⟨g,cap,cur,rfl,hbg,hh,hnc,hcm,hsz,hxs⟩
 ·have hz:zs=[]:=List.eq_nil_of_length_eq_zero hn
  subst hz;clear hcase hn hb
  go_enter Tryz.func62,Tryz.ntmps62
  go_wp2
  go_loop [1,5] (fun x i=>i= .int .i64 0∧x= .int .i64 a) (fun _ _=>0)
  case atStart=>exact⟨rfl,rfl⟩
  case round=>
   obtain⟨rfl,rfl⟩:=hrel;go_wp2;go_ret
   exact⟨by simp,OwnI.nil _ _,World.grownBy.refl _ _⟩
 ·clear hcase hh hxs hsz
  have hml:zs.length≤1000000000000:=by omega
  go_enter Tryz.func62,Tryz.ntmps62
  go_wp2
  go_loopw [1,5] (fun x i wr=>∃k:Nat,k≤zs.length∧i= .int .i64 k∧x= .int .i64 (a+k)∧OwnI base wr (.slice (some ⟨g,0,none⟩) zs.length cap) (yi a zs k)∧w.grownBy wr (some g)) (fun _ i _=>zs.length -(intOf i).toNat)
  case atStart=>exact⟨0,Nat.zero_le _,rfl,by simp,by rw[z1Z];exact h,World.grownBy.refl _ _⟩
  case round=>
   obtain⟨k,hk,rfl,rfl,hown,hgr⟩:=hrel;have hml2:=xJ a zs k hk
   by_cases hlt:k<zs.length
   ·have hown':wr.ownsRow base 3 1 (.slice (some ⟨g,0,none⟩) zs.length cap) zs.length ((yi a zs k).map vI):=by
     have:=hown;unfold OwnI at this;rw[hml2] at this;exact this
    have hcell:=hown'.cellAt k (by omega);have hfr:=hown'.frozenAt k
    have hv:((yi a zs k).map vI)[k]? =some (.int .i64 ((yi a zs k).getD k 0)):=by
     rw[List.getElem?_map,List.getElem?_eq_getElem (by omega)];simp[vI,List.getD,List.getElem?_eq_getElem (show k<(yi a zs k).length by omega)]
    rw[hv] at hcell;have hst:=hown'.stored k (.int .i64 (a+k))
    have HS:OwnI base (wr.setCell ⟨g,k,none⟩ (.int .i64 (a+k))) (.slice (some ⟨g,0,none⟩) zs.length cap) (yi a zs (k+1)):=by
     unfold OwnI;rw[xJ a zs (k+1) (by omega),z1I a zs k hlt,List.map_set];exact hst.1
    have hgr':=qA hgr k (.int .i64 (a+k));generalize (yi a zs k).getD k 0=x at hcell;clear hst hv hown hown' hml2 h;go_wp2;go_roundw
    case rel=>exact⟨k+1,by omega,by go_num,by go_num,HS,hgr'⟩
    case measure=>simp[intOf];omega
   ·have hkk:k=zs.length:=by omega
    subst hkk;rw[z2N] at hown;clear hml2;go_wp2;go_ret
    exact⟨rfl,hown,hgr⟩
def z2o (zs:List Int) (a:Int):Int:=if zs=runI a zs.length then a+zs.length else -1
theorem X9 (v:Value) (zs:List Int) (a:Int) (w:World) (h:RI w v zs) (ha:0≤a) (hb:a+zs.length≤1000000000000):
  Calls Tryz.prog 63 #[v,.int .i64 a] w fun e w'=>e= .returned (.int .i64 (z2o zs a))∧w=w':=by
 obtain⟨A,c,rfl,hc,hm,hcell⟩:=h.form;clear h
 go_enter Tryz.func63,Tryz.ntmps63
 go_wp2
 go_loop [1,5] (fun x i=>∃k:Nat,k≤zs.length∧i= .int .i64 k∧x= .int .i64 (a+k)∧Hid (zs.take k=runI a k)) (fun _ i=>zs.length -(intOf i).toNat)
 case atStart=>exact⟨0,Nat.zero_le _,rfl,by simp,Lib.hid (by simp[runI])⟩
 case round=>
  obtain⟨k,hk,rfl,rfl,HT⟩:=hrel
  by_cases hlt:k<zs.length
  ·obtain⟨b,off,rfl,hbb,hcl⟩:=hcell (by omega)
   have hck:=hcl k hlt;clear hcl hcell;have HX:=Lib.hid (show zs.getD k 0=zs[k] by simp[List.getD,List.getElem?_eq_getElem hlt]);generalize zs.getD k 0=x at*
   by_cases hxy:x=a+k
   ·have e2:(x != a+(k:Int))=false:=by simp[hxy]
    have HE:=Lib.hid hxy;clear hxy;go_wp2;go_round
    case rel=>
     refine⟨k+1,by omega,by go_num,by go_num,Lib.hid ?_⟩
     rw[List.take_succ_eq_append_getElem hlt,HT.out,←HX.out,HE.out];simp[runI,List.range_succ]
    case measure=>simp[intOf];omega
   ·have e2:(x != a+(k:Int))=true:=by simp[hxy]
    have HE:=Lib.hid hxy;clear hxy;go_wp2;go_ret
    refine⟨ze ?_,rfl⟩
    unfold z2o;rw[if_neg];intro heq;refine HE.out ?_
    rw[HX.out];have h2:=congrArg (fun l=>l.getD k 0) heq;simp only[z4z a _ k hlt] at h2
    rw[←h2];simp[List.getD,List.getElem?_eq_getElem hlt]
  ·have hkk:k=zs.length:=by omega
   subst hkk;have h:=HT.out;rw[List.take_length] at h;have HE:=Lib.hid h;clear h hcell HT;go_wp2;go_ret
   exact⟨ze (by unfold z2o;rw[if_pos HE.out]),rfl⟩
theorem z54 (v:Value) (n:Nat) (a:Int) (w:World) (h:RI w v (runI a n)) (ha:0≤a) (hb:a+n≤1000000000000):
  Calls Tryz.prog 63 #[v,.int .i64 a] w fun e w'=>e= .returned (.int .i64 (a+n))∧w=w':=by
 refine(X9 v (runI a n) a w h ha (by rw[kr];exact hb)).mono ?_
 rintro e w' ⟨he,hw⟩;refine⟨he.trans (ze ?_),hw⟩
 unfold z2o;rw[kr,if_pos rfl]
def mn2 (x y:Int):Int:=if y<x then y else x
def mx2 (x y:Int):Int:=if x<y then y else x
theorem xv (x y:Int):mn2 x y=min x y:=by unfold mn2;split<;>omega
theorem vh (x y:Int):mx2 x y=max x y:=by unfold mx2;split<;>omega
section
variable {P:Program} (w:World)
theorem zY (ts:Array TypeId) (t:TypeId) (k k':IntKind) (x y:Int):(Builtin.min_ ts t #[.int k x,.int k' y]).run P w= .ok (.int k (mn2 x y)) w:=by
 rw[run_min_int2];rfl
theorem zZ (ts:Array TypeId) (t:TypeId) (k k':IntKind) (x y:Int):(Builtin.max_ ts t #[.int k x,.int k' y]).run P w= .ok (.int k (mx2 x y)) w:=by
 rw[vh];simp[Builtin.max_,Builtin.max2]
 split<;>omega
end
theorem zS {α:Type} (f:α→List Value) (n:Nat) (hf:∀x,(f x).length =n):∀l:List α,(l.flatMap f).length =l.length*n
 | []=>by simp
 |x::l=>by rw[List.flatMap_cons,List.length_append,hf,zS f n hf l,List.length_cons,Nat.add_mul];omega
theorem qk {α:Type} (f:α→List Value) (n:Nat) (hf:∀x,(f x).length =n):∀(l:List α) (k j:Nat) (hk:k<l.length) (hj:j<n),(l.flatMap f)[k*n+j]? =(f l[k])[j]?
 | [],k,j,hk,hj=>absurd hk (by simp)
 |x::l,0,j,hk,hj=>by
  rw[List.flatMap_cons,List.getElem?_append_left (by rw[hf];omega)];simp
 |x::l,k+1,j,hk,hj=>by
  rw[List.flatMap_cons,List.getElem?_append_right (by rw[hf,Nat.add_mul];omega),hf,show(k+1)*n+j -n=k*n+j by rw[Nat.add_mul];omega,
   qk f n hf l k j (by simpa using hk) hj]
  simp
def Blk (w:World) (g:Nat) (t:TypeId) (cs:Array Value):Prop:=w.heap[g]? =some (.cells cs t (0,0))
section
variable {w w':World} {g:Nat} {t:TypeId} {cs:Array Value}
theorem Blk.lt (h:Blk w g t cs):g<w.heap.size:=by
 rcases Nat.lt_or_ge g w.heap.size with hlt|hge
 ·exact hlt
 ·unfold Blk at h;rw[Array.getElem?_eq_none hge] at h;cases h
theorem Blk.cell (h:Blk w g t cs) (i:Nat):w.cell? ⟨g,i,none⟩=cs[i]? :=cell_of_row w g i cs t (0,0) h
theorem Blk.frozen (h:Blk w g t cs) (i:Nat):w.frozen? ⟨g,i,none⟩=false:=by
 unfold Blk at h;simp[World.frozen?,h]
theorem Blk.new (w:World) (t:TypeId) (cs:Array Value):Blk (w.alloc (.cells cs t)) w.heap.size t cs:=heap_alloc_new w _
theorem Blk.drew (h:Blk w g t cs):Blk w.drew g t cs:=h
theorem Blk.alloc (h:Blk w g t cs) (o:Obj):Blk (w.alloc o) g t cs:=(Below.heap_alloc w o g h.lt).trans h
theorem Blk.set_ (h:Blk w g t cs) (i:Nat) (u:Value):Blk (w.setCell ⟨g,i,none⟩ u) g t (cs.setIfInBounds i u):=by
 unfold Blk at h⊢;simp[World.setCell,Array.getElem?_modify,h]
theorem Blk.far (h:Blk w g t cs) {p:Addr} (hp:g≠p.block) (u:Value):Blk (w.setCell p u) g t cs:=(Below.heap_setCell w p u g hp).trans h
theorem Blk.below {B:Nat} (h:Blk w g t cs) (hb:Below B w w') (hg:g<B):Blk w' g t cs:=(hb.block g hg).trans h
end
theorem Blk.c2 {w:World} {g:Nat} {t:TypeId} {v0 v1:Value} (h:Blk w g t #[v0,v1]):w.cell? ⟨g,0,none⟩=some v0∧w.cell? ⟨g,1,none⟩=some v1:=⟨h.cell 0,h.cell 1⟩
theorem Blk.b2 {w:World} {g:Nat} {t:TypeId} {v0 v1:Value} (h:Blk w g t #[v0,v1]):w.cell? ⟨g,0,none⟩=some v0∧w.cell? ⟨g,1,none⟩=some v1∧w.frozen? ⟨g,0,none⟩=false∧w.frozen? ⟨g,1,none⟩=false:=⟨h.cell 0,h.cell 1,h.frozen 0,h.frozen 1⟩
theorem Blk.c3 {w:World} {g:Nat} {t:TypeId} {v0 v1 v2:Value} (h:Blk w g t #[v0,v1,v2]):w.cell? ⟨g,0,none⟩=some v0∧w.cell? ⟨g,1,none⟩=some v1∧w.cell? ⟨g,2,none⟩=some v2:=⟨h.cell 0,h.cell 1,h.cell 2⟩
theorem Blk.c5 {w:World} {g:Nat} {t:TypeId} {v0 v1 v2 v3 v4:Value} (h:Blk w g t #[v0,v1,v2,v3,v4]):w.cell? ⟨g,0,none⟩=some v0∧w.cell? ⟨g,1,none⟩=some v1∧w.cell? ⟨g,2,none⟩=some v2∧w.cell? ⟨g,3,none⟩=some v3∧w.cell? ⟨g,4,none⟩=some v4:=⟨h.cell 0,h.cell 1,h.cell 2,h.cell 3,h.cell 4⟩
theorem Blk.b5 {w:World} {g:Nat} {t:TypeId} {v0 v1 v2 v3 v4:Value} (h:Blk w g t #[v0,v1,v2,v3,v4]):w.cell? ⟨g,0,none⟩=some v0∧w.cell? ⟨g,1,none⟩=some v1∧w.cell? ⟨g,2,none⟩=some v2∧w.cell? ⟨g,3,none⟩=some v3∧w.cell? ⟨g,4,none⟩=some v4∧w.frozen? ⟨g,0,none⟩=false∧w.frozen? ⟨g,1,none⟩=false∧w.frozen? ⟨g,2,none⟩=false∧w.frozen? ⟨g,3,none⟩=false∧w.frozen? ⟨g,4,none⟩=false:=⟨h.cell 0,h.cell 1,h.cell 2,h.cell 3,h.cell 4,h.frozen 0,h.frozen 1,h.frozen 2,h.frozen 3,h.frozen 4⟩
theorem Blk.c8 {w:World} {g:Nat} {t:TypeId} {v0 v1 v2 v3 v4 v5 v6 v7:Value} (h:Blk w g t #[v0,v1,v2,v3,v4,v5,v6,v7]):w.cell? ⟨g,0,none⟩=some v0∧w.cell? ⟨g,1,none⟩=some v1∧w.cell? ⟨g,2,none⟩=some v2∧w.cell? ⟨g,3,none⟩=some v3∧w.cell? ⟨g,4,none⟩=some v4∧w.cell? ⟨g,5,none⟩=some v5∧w.cell? ⟨g,6,none⟩=some v6∧w.cell? ⟨g,7,none⟩=some v7:=⟨h.cell 0,h.cell 1,h.cell 2,h.cell 3,h.cell 4,h.cell 5,h.cell 6,h.cell 7⟩
theorem Blk.b8 {w:World} {g:Nat} {t:TypeId} {v0 v1 v2 v3 v4 v5 v6 v7:Value} (h:Blk w g t #[v0,v1,v2,v3,v4,v5,v6,v7]):w.cell? ⟨g,0,none⟩=some v0∧w.cell? ⟨g,1,none⟩=some v1∧w.cell? ⟨g,2,none⟩=some v2∧w.cell? ⟨g,3,none⟩=some v3∧w.cell? ⟨g,4,none⟩=some v4∧w.cell? ⟨g,5,none⟩=some v5∧w.cell? ⟨g,6,none⟩=some v6∧w.cell? ⟨g,7,none⟩=some v7∧w.frozen? ⟨g,0,none⟩=false∧w.frozen? ⟨g,1,none⟩=false∧w.frozen? ⟨g,2,none⟩=false∧w.frozen? ⟨g,3,none⟩=false∧w.frozen? ⟨g,4,none⟩=false∧w.frozen? ⟨g,5,none⟩=false∧w.frozen? ⟨g,6,none⟩=false∧w.frozen? ⟨g,7,none⟩=false:=⟨h.cell 0,h.cell 1,h.cell 2,h.cell 3,h.cell 4,h.cell 5,h.cell 6,h.cell 7,h.frozen 0,h.frozen 1,h.frozen 2,h.frozen 3,h.frozen 4,h.frozen 5,h.frozen 6,h.frozen 7⟩
theorem Blk.newAt {w:World} {g:Nat} {t:TypeId} {cs:Array Value} (h:g=w.heap.size):Blk (w.alloc (.cells cs t)) g t cs:=by
 subst h;exact Blk.new w t cs
theorem kG {base:Nat} {w:World} {e:TypeId} {size:Nat} {v:Value} {n:Nat} {xs:List Value} (h:w.ownsRow base e size v n xs):RS w size v n xs:=by
 obtain⟨h1,h2⟩:=h;refine⟨h1,?_⟩
 rcases h2 with ⟨rfl,hn⟩|⟨g,cap,cur,rfl,_,hh,hnc,hcm,hsz,hxs⟩
 ·exact⟨none,0,by rw[hn],by omega,by rw[hn];simp[maxLen],fun hp=>absurd hp (by omega)⟩
 ·refine⟨_,cap,rfl,hnc,by omega,fun hp=>⟨g,0,rfl,?_,fun j u hu=>?_⟩⟩
  ·rcases Nat.lt_or_ge g w.heap.size with hlt|hge
   ·exact hlt
   ·rw[Array.getElem?_eq_none hge] at hh;cases hh
  ·rw[Nat.zero_add,cell_of_row _ _ _ cur e (0,0) hh]
   rw[←hxs] at hu;rw[List.getElem?_take] at hu
   split at hu
   ·simpa using hu
   ·cases hu
theorem zX {base:Nat} {w w':World} {e:TypeId} {size:Nat} {v:Value} {n:Nat} {xs:List Value} (h:w.ownsRow base e size v n xs) (hb:Below w.heap.size w w'):w'.ownsRow base e size v n xs:=by
 refine World.ownsRow.kept (row:=none) h ⟨hb.os,hb.tape,hb.output,hb.size,fun k hk _=>hb.block k hk⟩ ?_
 cases hv:v.ownBlock with
 |none=>exact .inl rfl
 |some k=>exact .inr (by simp)
theorem Blk.grown {w w':World} {b g:Nat} {t:TypeId} {cs:Array Value} (h:Blk w b t cs) (hg:w.grownBy w' (some g)) (hne:b≠g):Blk w' b t cs:=
 (hg.block b h.lt (fun e=>hne (by cases e;rfl))).trans h
def szF (n:Int) (k:Nat):Int:=if n<k then -1 else n -k
theorem OwnI.cell {base:Nat} {w:World} {g cap n:Nat} {G:List Int} (h:OwnI base w (.slice (some ⟨g,0,none⟩) n cap) G) {q:Nat} (hq:q<G.length):w.cell? ⟨g,q,none⟩=some (.int .i64 (G.getD q 0)):=by
 have hn:=h.1;have ho:w.ownsRow base 3 1 (.slice (some ⟨g,0,none⟩) n cap) G.length (G.map vI):=h
 have e:n=G.length:=by
  rcases ho.2 with ⟨e,_⟩|⟨g',cap',cur,e,_⟩
  ·cases e
  ·injection e
 subst e;rw[ho.cellAt q (by omega),List.getElem?_map,List.getElem?_eq_getElem hq];simp[vI,List.getD,List.getElem?_eq_getElem hq]
theorem OwnI.frz {base:Nat} {w:World} {g cap n:Nat} {G:List Int} (h:OwnI base w (.slice (some ⟨g,0,none⟩) n cap) G) (q:Nat):w.frozen? ⟨g,q,none⟩=false:=by
 have ho:w.ownsRow base 3 1 (.slice (some ⟨g,0,none⟩) n cap) G.length (G.map vI):=h
 have e:n=G.length:=by
  rcases ho.2 with ⟨e,_⟩|⟨g',cap',cur,e,_⟩
  ·cases e
  ·injection e
 subst e;exact ho.frozenAt q
theorem OwnI.set_ {base:Nat} {w:World} {g cap n:Nat} {G:List Int} (h:OwnI base w (.slice (some ⟨g,0,none⟩) n cap) G) (q:Nat) (x:Int):
  OwnI base (w.setCell ⟨g,q,none⟩ (.int .i64 x)) (.slice (some ⟨g,0,none⟩) n cap) (G.set q x):=by
 have ho:w.ownsRow base 3 1 (.slice (some ⟨g,0,none⟩) n cap) G.length (G.map vI):=h
 have e:n=G.length:=by
  rcases ho.2 with ⟨e,_⟩|⟨g',cap',cur,e,_⟩
  ·cases e
  ·injection e
 subst e;have:=(ho.stored q (.int .i64 x)).1;unfold OwnI;rw[List.length_set,List.map_set];exact this
theorem OwnI.far {base:Nat} {w w':World} {v:Value} {zs:List Int} {row:Option Nat} (h:OwnI base w v zs) (hg:w.grownBy w' row) (hr:∀k,row=some k→k<base):OwnI base w' v zs:=by
 refine World.ownsRow.kept h hg ?_
 cases hv:v.ownBlock with
 |none=>exact .inl rfl
 |some k=>
  right
  rintro rfl;have:=hr k rfl;have:=(OwnI.lt h k hv).1;omega
def prc (p:Int×Int):List Value:=[.int .i64 p.1,.int .i64 p.2]
def RP (w:World) (v:Value) (l:List (Int×Int)):Prop:=RS w 2 v l.length (l.flatMap prc)
theorem RP.below {w w':World} {v:Value} {l:List (Int×Int)} (h:RP w v l) (hb:Below w.heap.size w w'):RP w' v l:=RS.below h hb
theorem RP.nil (w:World):RP w (.slice none 0 0) []:=RS.nil w 2
theorem RP.form {w:World} {v:Value} {l:List (Int×Int)} (h:RP w v l):∃A c,v= .slice A l.length c∧l.length≤c∧l.length≤maxLen∧
  (0<l.length→∃b off,A=some ⟨b,off,none⟩∧b<w.heap.size∧∀k (hk:k<l.length),w.cell? ⟨b,off+k*2,none⟩=some (.int .i64 l[k].1)∧w.cell? ⟨b,off+k*2+1,none⟩=some (.int .i64 l[k].2)):=by
 obtain⟨_,A,c,hv,h1,h2,h3⟩:=h;refine⟨A,c,hv,h1,h2,fun hn=>?_⟩
 obtain⟨b,off,hA,hlt,hc⟩:=h3 hn;refine⟨b,off,hA,hlt,fun k hk=>?_⟩
 have g:=fun j hj=>qk prc 2 (fun _=>rfl) l k j hk hj
 refine⟨?_,?_⟩
 ·exact hc (k*2+0) _ (by rw[g 0 (by omega)];rfl)
 ·have:=hc (k*2+1) _ (by rw[g 1 (by omega)];rfl);rwa [←Nat.add_assoc] at this
theorem qR {w:World} {l:List (Int×Int)} {cs:Array Value} {t:TypeId} {g n c:Nat} (hg:g=w.heap.size) (hcs:cs.toList=l.flatMap prc) (hn:n=l.length) (hc:c=l.length) (hm:l.length≤maxLen):
  RP (w.alloc (.cells cs t)) (.slice (some ⟨g,0,none⟩) n c) l:=by
 subst hg hn hc;refine⟨zS prc 2 (fun _=>rfl) l,_,_,rfl,by omega,hm,fun hn=>⟨w.heap.size,0,rfl,by simp,fun j u hu=>?_⟩⟩
 rw[←hcs] at hu;have hu':cs[j]? =some u:=by simpa using hu
 rw[Nat.zero_add,cell_of_row _ _ _ cs t (0,0) (heap_alloc_new w _)];exact hu'
def OwnP (t:TypeId) (base:Nat) (w:World) (v:Value) (l:List (Int×Int)):Prop:=w.ownsRow base t 2 v l.length (l.flatMap prc)
def RetP (t:TypeId) (l:List (Int×Int)) (w:World) (e:Ending) (w':World):Prop:=∃A c,e= .returned (.slice A l.length c)∧OwnP t w.heap.size w' (.slice A l.length c) l∧Below w.heap.size w w'
theorem OwnP.form {t:TypeId} {base:Nat} {w:World} {v:Value} {l:List (Int×Int)} (h:OwnP t base w v l):∃A c,v= .slice A l.length c:=by
 rcases h.2 with ⟨rfl,hn⟩|⟨g,cap,cur,rfl,_⟩
 ·exact⟨none,0,by rw[hn]⟩
 ·exact⟨_,_,rfl⟩
theorem RetP.mk {t:TypeId} {l:List (Int×Int)} {w w':World} {v:Value} (h:OwnP t w.heap.size w' v l) (hb:Below w.heap.size w w'):RetP t l w (.returned v) w':=by
 obtain⟨A,c,rfl⟩:=h.form;exact⟨A,c,rfl,h,hb⟩
section
variable {t:TypeId} {base:Nat} {w w':World} {v:Value} {l:List (Int×Int)}
theorem OwnP.nil (t:TypeId) (base:Nat) (w:World):OwnP t base w (.slice none 0 0) []:=World.ownsRow_nil _ _ _ _
theorem OwnP.reads (h:OwnP t base w v l):RP w v l:=kG h
theorem OwnP.kept (h:OwnP t base w v l) (hb:Below w.heap.size w w'):OwnP t base w' v l:=zX h hb
theorem OwnP.alloc (h:OwnP t base w v l) (o:Obj):OwnP t base (w.alloc o) v l:=World.ownsRow.alloc h o
theorem OwnP.drew (h:OwnP t base w v l):OwnP t base w.drew v l:=h
theorem OwnP.lt (h:OwnP t base w v l):∀k,v.ownBlock=some k→base≤k∧k<w.heap.size:=World.ownsRow.lt h
theorem OwnP.mono {base':Nat} (h:OwnP t base w v l) (hb:base'≤base):OwnP t base' w v l:=by
 obtain⟨h1,h2⟩:=h;refine⟨h1,?_⟩
 rcases h2 with h2|⟨g,cap,cur,e1,e2,e3⟩
 ·exact .inl h2
 ·exact .inr ⟨g,cap,cur,e1,Nat.le_trans hb e2,e3⟩
theorem OwnP.far {row:Option Nat} (h:OwnP t base w v l) (hg:w.grownBy w' row) (hr:∀k,row=some k→k<base):OwnP t base w' v l:=by
 refine World.ownsRow.kept h hg ?_
 cases hv:v.ownBlock with
 |none=>exact .inl rfl
 |some k=>
  right
  rintro rfl;have:=hr k rfl;have:=(OwnP.lt h k hv).1;omega
end
theorem OwnP.apart {t:TypeId} {base:Nat} {w w':World} {v:Value} {l:List (Int×Int)} {row:Option Nat} (h:OwnP t base w v l) (hg:w.grownBy w' row) (hr:∀k,v.ownBlock=some k→row=some k→False):OwnP t base w' v l:=by
 refine World.ownsRow.kept h hg ?_
 cases hv:v.ownBlock with
 |none=>exact .inl rfl
 |some k=>exact .inr (fun e=>hr k hv e.symm)
theorem qO (w:World) (p:Addr) (u:Value):w.grownBy (w.setCell p u) (some p.block):=
 ⟨rfl,rfl,rfl,by simp[World.setCell],fun i hi hne=>Below.heap_setCell w p u i (fun e=>hne (by rw[e]))⟩
theorem OwnP.setLow {t:TypeId} {base:Nat} {w:World} {v:Value} {l:List (Int×Int)} (h:OwnP t base w v l) {p:Addr} (hp:p.block<base) (u:Value):OwnP t base (w.setCell p u) v l:=
 h.far (qO w p u) (fun k hk=>by cases hk;exact hp)
theorem OwnP.len {t:TypeId} {base:Nat} {w:World} {g n cap:Nat} {G:List (Int×Int)} (h:OwnP t base w (.slice (some ⟨g,0,none⟩) n cap) G):n=G.length:=by
 have ho:w.ownsRow base t 2 (.slice (some ⟨g,0,none⟩) n cap) G.length (G.flatMap prc):=h
 rcases ho.2 with ⟨e,_⟩|⟨g',cap',cur,e,_⟩
 ·cases e
 ·injection e
theorem z0B:∀(l:List (Int×Int)) (k:Nat) (x:Int×Int),k<l.length→(l.set k x).flatMap prc=((l.flatMap prc).set (k*2) (.int .i64 x.1)).set (k*2+1) (.int .i64 x.2)
 | [],k,x,h=>absurd h (by simp)
 |a::l,0,x,h=>by simp[prc]
 |a::l,k+1,x,h=>by
  have ih:=z0B l k x (by simpa using h);have e:(k+1)*2=k*2+1+1:=by omega
  rw[List.set_cons_succ,List.flatMap_cons,ih,List.flatMap_cons,e];simp[prc]
theorem OwnP.cell {t:TypeId} {base:Nat} {w:World} {g n cap:Nat} {G:List (Int×Int)} (h:OwnP t base w (.slice (some ⟨g,0,none⟩) n cap) G) {q:Nat} (hq:q<G.length):
  w.cell? ⟨g,q*2,none⟩=some (.int .i64 G[q].1)∧w.cell? ⟨g,q*2+1,none⟩=some (.int .i64 G[q].2):=by
 have e:=h.len;subst e;have ho:w.ownsRow base t 2 (.slice (some ⟨g,0,none⟩) G.length cap) G.length (G.flatMap prc):=h;have g':=fun j hj=>qk prc 2 (fun _=>rfl) G q j hq hj
 refine⟨?_,?_⟩
 ·rw[ho.cellAt _ (by omega)];have:=g' 0 (by omega);rw[Nat.add_zero] at this;rw[this];rfl
 ·rw[ho.cellAt _ (by omega),g' 1 (by omega)];rfl
theorem OwnP.frz {t:TypeId} {base:Nat} {w:World} {g n cap:Nat} {G:List (Int×Int)} (h:OwnP t base w (.slice (some ⟨g,0,none⟩) n cap) G) (q:Nat):w.frozen? ⟨g,q,none⟩=false:=by
 have e:=h.len;subst e;have ho:w.ownsRow base t 2 (.slice (some ⟨g,0,none⟩) G.length cap) G.length (G.flatMap prc):=h;exact ho.frozenAt q
theorem OwnP.set_ {t:TypeId} {base:Nat} {w:World} {g n cap:Nat} {G:List (Int×Int)} (h:OwnP t base w (.slice (some ⟨g,0,none⟩) n cap) G) {q:Nat} (hq:q<G.length) (x y:Int):
  OwnP t base ((w.setCell ⟨g,q*2,none⟩ (.int .i64 x)).setCell ⟨g,q*2+1,none⟩ (.int .i64 y)) (.slice (some ⟨g,0,none⟩) n cap) (G.set q (x,y)):=by
 have e:=h.len;subst e;have ho:w.ownsRow base t 2 (.slice (some ⟨g,0,none⟩) G.length cap) G.length (G.flatMap prc):=h;have:=((ho.stored (q*2) (.int .i64 x)).1.stored (q*2+1) (.int .i64 y)).1;unfold OwnP;rw[List.length_set,z0B G q (x,y) hq];exact this
def yu (l:List (Int×Int)) (k:Nat):List (Int×Int):=l.take k++List.replicate (l.length -k) (0,0)
theorem xX (l:List (Int×Int)) (k:Nat) (h:k≤l.length):(yu l k).length =l.length:=by simp[yu];omega
theorem J4 (l:List (Int×Int)):yu l 0=List.replicate l.length (0,0):=by simp[yu]
theorem Vj (l:List (Int×Int)):yu l l.length=l:=by simp[yu]
theorem Zd (l:List (Int×Int)) (k:Nat) (h:k<l.length):yu l (k+1)=(yu l k).set k l[k]:=by
 unfold yu;have e:l.length -k=(l.length -(k+1))+1:=by omega
 rw[List.take_succ_eq_append_getElem h,List.set_append,if_neg (by simp;omega),e,List.replicate_succ];have hl:(List.take k l).length =k:=by simp;omega
 rw[hl,Nat.sub_self,List.set_cons_zero,List.append_assoc,List.cons_append,List.nil_append]
theorem made2 (n:Nat):(madeCells #[.int .i64 0,.int .i64 0] (n*2)).toList =(List.replicate n ((0:Int),(0:Int))).flatMap prc:=by
 apply List.ext_getElem?
 intro j
 by_cases hj:j<n*2
 ·have h1:=qk prc 2 (fun _=>rfl) (List.replicate n ((0:Int),(0:Int))) (j/2) (j%2) (by simp;omega) (by omega)
  rw[show j/2*2+j%2=j by omega] at h1;rw[h1];simp only[madeCells,Array.toList_map,List.getElem?_map,Array.toList_range,List.getElem?_range hj,Option.map_some]
  show some (#[Value.int .i64 0,.int .i64 0][j%2]!)=_
  have:j%2=0∨j%2=1:=by omega
  rcases this with h|h<;>rw[h]<;>simp[prc]
 ·rw[List.getElem?_eq_none (by simp[madeCells];omega),List.getElem?_eq_none (by rw[zS prc 2 (fun _=>rfl)];simp;omega)]
end Go.Proofs.YtnjcpljhmhdhkaaGreat
