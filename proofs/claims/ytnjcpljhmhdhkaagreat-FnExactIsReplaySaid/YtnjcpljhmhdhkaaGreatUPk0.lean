/- part 0 -/
import Derived.WalkKit
import Derived.WalkSpells
import Derived.WalkLawsBesides
import Derived.Lib.Hide
import Derived.Deep.AppendLies
import Derived.Deep.Draws
import Derived.Test.YtnjcpljhmhdhkaaGreatProg
import Derived.OwnWalk
import Derived.Maps.AppendAt
import Derived.Deep.QuietTactic
import Derived.BigQuiet
import Derived.BigRegion
import Derived.StillTailTactics
import Derived.Outline
import Derived.Deep.RegionHeld3
import Derived.Deep.DeepCutAuto
set_option linter.unusedSimpArgs false
set_option linter.unusedVariables false
set_option maxRecDepth 100000
set_option maxHeartbeats 4000000
set_option linter.defProp false
namespace Go.Proofs.YtnjcpljhmhdhkaaGreat
open Go.RowKit
theorem o_ {P:Prop} (h:P:=by omega):P:=h
theorem k_ {P:Prop} (h:P:=by kernel_rfl):P:=h
theorem h_ {P:Prop} (h:P):Hid P:=Lib.hid h
theorem lp_:(forall (a:Act) (v:Value),a.put none v=a)/\(forall (a:Act) (t:Tmp) (v:Value),a.put (some t) v={a with tmps:=a.tmps.setIfInBounds t v})/\(forall (l:List Value) (i:Nat) (x:Value),l.toArray.setIfInBounds i x=(l.set i x).toArray)/\(forall (l:List Bool) (i:Nat) (x:Bool),l.toArray.setIfInBounds i x=(l.set i x).toArray)/\(forall (l:List Value) (x y:Value),(x::l).set 0 y=y::l)/\(forall (l:List Bool) (x y:Bool),(x::l).set 0 y=y::l)/\(forall (l:List Value) (i:Nat) (x y:Value),(x::l).set (i+1) y=x::l.set i y)/\(forall (l:List Bool) (i:Nat) (x y:Bool),(x::l).set (i+1) y=x::l.set i y):=by
 refine ⟨?_,?_,?_,?_,?_,?_,?_,?_⟩ <;> intros <;> simp[Act.put]
@[reducible] def z8_:Array Value:=#[.slice none 0 0,.slice none 0 0,.slice none 0 0,.slice none 0 0,.slice none 0 0,.slice none 0 0,.slice none 0 0,.int .i64 0]
@[reducible] def z5_:Array Value:=#[.slice none 0 0,.slice none 0 0,.slice none 0 0,.slice none 0 0,.slice none 0 0]
@[reducible] def CB_ (F:FuncId) (a:Array Value) (w:World) (r:Value):Prop:=Calls Tryz.prog F a w fun e w'=>e= .returned r/\Below w.heap.size w w'
def aaa:=@Nat.le_refl
def aab:=@Nat.zero_le
def aac:=@List.getElem?_eq_getElem
def aad:=@List.getElem_append_left
def aae:=@Nat.sub_self
def aaf:=@Nat.add_zero
def aag:=@List.getElem?_cons_zero
def aah:=@List.getElem?_cons_succ
def aai:=@Nat.le_trans
def aaj:=@Below.refl
def aak:=@Nat.add_assoc
def aal:=@List.set_cons_zero
def aam:=@List.flatMap_cons
def aan:=@List.set_append
def aao:=@if_pos
def aap:=@List.set_cons_succ
def aaq:=@if_neg
def aar:=@List.length_set
def aas:=@List.drop_eq_getElem_cons
def aat:=@List.ext_getElem?
def aau:=@List.getElem?_map
def aav:=@List.getElem?_range
def aaw:=@Option.map_some
def aax:=@List.take_succ_eq_append_getElem
def aay:=@List.append_assoc
def aaz:=@List.getElem_set_self
def aaA:=@List.map_append
def aaB:=@List.take_length
def aaC:=@Nat.lt_succ_self
def aaD:=@List.length_replicate
def aaE:=@Nat.lt_of_lt_of_le
def aaF:=@Nat.pow_le_pow_right
def aaG:=@Nat.zero_add
def aaH:=@Bool.and_eq_true
def aaI:=@Bool.or_eq_true
def aaJ:=@List.mem_append
def aaK:=@decide_eq_false_iff_not
def aaL:=@List.take_of_length_le
def aaM:=@List.all_eq_true
def aaN:=@List.mem_range
def aaO:=@beq_iff_eq
def aaP:=@decide_eq_false
def aaQ:=@IntWalk.i64_in
def aaR:=@decide_eq_true
def aaS:=@Bool.true_and
def aaT:=@List.map_cons
def aaU:=@List.map_nil
def aaV:=@List.length_cons
def aaW:=@Nat.lt_irrefl
def aaX:=@List.length_append
def aaY:=@List.flatMap_append
def aaZ:=@Result.andThen_ok
def aa0:=@Bool.eq_iff_iff
def aa1:=@List.getElem?_set
def aa2:=@Nat.testBit_or
def aa3:=@Nat.testBit_two_pow
def aa4:=@Nat.pow_lt_pow_right
def aa5:=@decide_eq_true_eq
def aa6:=@Int.toNat_natCast
def aa7:=@List.getD_eq_getElem?_getD
def aa8:=@List.pairwise_iff_getElem
def aa9:=@List.length_singleton
def aba:=@List.mem_singleton
def abb:=@List.getElem_of_mem
def abc:=@List.getElem?_append_right
def abd:=@List.getElem?_append_left
def abe:=@List.getElem?_toArray
def abf:=@List.range_succ
def abg:=@List.filter_append
def abh:=@List.getElem_mem
def abi:=@List.length_pos_of_mem
def abj:=@List.setIfInBounds_toArray
def abk:=@Nat.lt_or_ge
def abl:=@Classical.byContradiction
def abm:=@List.getElem?_replicate
def abn:=@List.length_take
def abo:=@Array.getElem?_eq_getElem
def abp:=@List.take_append_drop
def abq:=@List.getElem_take
def abr:=@List.length_range
def abu:=@List.idxOf_lt_length_of_mem
def abv:=@Nat.mod_eq_of_lt
def abw:=@Nat.eq_zero_or_pos
def abx:=@Array.getElem?_eq_none
def aby:=@List.eq_nil_of_length_eq_zero
def abz:=@Nat.testBit_two_pow_self
def abA:=@List.mem_append_left
def vI (z:Int):Value:= .int .i64 z
def inB (x lo hi:Int):Bool:=decide (lo<=x/\x<=hi)
theorem zd {x lo hi:Int}:inB x lo hi=true↔lo<=x/\x<=hi:=by simp[inB]
theorem z0C {x lo hi:Int}:inB x lo hi=false↔¬(lo<=x/\x<=hi):=by simp[inB]
def RS (w:World) (size:Nat) (v:Value) (n:Nat) (xs:List Value):Prop:=
 xs.length=n*size/\∃A c,v= .slice A n c/\n<=c/\n<=maxLen/\
  (0<n->∃b off,A=some ⟨b,off,none⟩/\b<w.heap.size/\∀j u,xs[j]? =some u->w.cell? ⟨b,off+j,none⟩=some u)
theorem RS.nil (w:World) (size:Nat):RS w size (.slice none 0 0) 0 []:=⟨by simp,none,0,rfl,by omega,by simp[maxLen],fun h=>absurd h o_⟩
theorem RS.below {w w':World} {size n:Nat} {v:Value} {xs:List Value} (h:RS w size v n xs) (hb:Below w.heap.size w w'):RS w' size v n xs:=by
 obtain⟨hl,A,c,hv,h1,h2,h3⟩:=h;refine⟨hl,A,c,hv,h1,h2,fun hn=>?_⟩
 obtain⟨b,off,hA,Hd,hc⟩:=h3 hn;exact⟨b,off,hA,aaE Hd hb.size,fun j u hu=>(hb.cell (p:=⟨b,off+j,none⟩) Hd).trans (hc j u hu)⟩
def RI (w:World) (v:Value) (zs:List Int):Prop:=RS w 1 v zs.length (zs.map vI)
theorem RI.below {w w':World} {v:Value} {zs:List Int} (h:RI w v zs) (hb:Below w.heap.size w w'):RI w' v zs:=RS.below h hb
theorem RI.form {w:World} {v:Value} {zs:List Int} (h:RI w v zs):∃A c,v= .slice A zs.length c/\zs.length<=c/\zs.length<=maxLen/\
  (0<zs.length->∃b off,A=some ⟨b,off,none⟩/\b<w.heap.size/\∀k,k<zs.length->w.cell? ⟨b,off+k,none⟩=some (.int .i64 (zs.getD k 0))):=by
 obtain⟨_,A,c,hv,h1,h2,h3⟩:=h;refine⟨A,c,hv,h1,h2,fun hn=>?_⟩
 obtain⟨b,off,hA,Hd,hc⟩:=h3 hn;refine⟨b,off,hA,Hd,fun k hk=>hc k _ ?_⟩
 rw[aau,aac hk];simp[vI,List.getD,aac hk]
theorem z8 {a b:Bool} (h:a=b):Ending.returned (.bool a)= .returned (.bool b):=by rw[h]
theorem zb {k:IntKind} {a b:Int} (h:a=b):Ending.returned (.int k a)= .returned (.int k b):=by rw[h]
theorem bcell {W w1:World} (hb:Below W.heap.size W w1):(∀b o,b<W.heap.size->w1.cell? ⟨b,o,none⟩=W.cell? ⟨b,o,none⟩)/\(∀b o,b<W.heap.size->w1.frozen? ⟨b,o,none⟩=W.frozen? ⟨b,o,none⟩):=
 ⟨fun b o h=>hb.cell (p:=⟨b,o,none⟩) h,fun b o h=>hb.frozen (p:=⟨b,o,none⟩) h⟩
theorem XF {W w1:World} (hb:Below W.drew.heap.size W.drew w1):(∀b o,b<W.heap.size->w1.cell? ⟨b,o,none⟩=W.cell? ⟨b,o,none⟩)/\(∀b o,b<W.heap.size->w1.frozen? ⟨b,o,none⟩=W.frozen? ⟨b,o,none⟩):=bcell (W:=W.drew) hb
theorem bcC {W w1:World} (hb:Below W.heap.size W w1):∀b o,b<W.heap.size->w1.cell? ⟨b,o,none⟩=W.cell? ⟨b,o,none⟩:=(bcell hb).1
theorem bcF {W w1:World} (hb:Below W.heap.size W w1):∀b o,b<W.heap.size->w1.frozen? ⟨b,o,none⟩=W.frozen? ⟨b,o,none⟩:=(bcell hb).2
theorem bdC {W w1:World} (hb:Below W.drew.heap.size W.drew w1):∀b o,b<W.heap.size->w1.cell? ⟨b,o,none⟩=W.cell? ⟨b,o,none⟩:=(XF hb).1
theorem bdF {W w1:World} (hb:Below W.drew.heap.size W.drew w1):∀b o,b<W.heap.size->w1.frozen? ⟨b,o,none⟩=W.frozen? ⟨b,o,none⟩:=(XF hb).2
theorem Qn {B:Nat} {a w:World} (h:Below B a w) (n:Nat):Below B a (w.drewN n):=⟨h.os,h.tape,h.output,h.size,h.block⟩
theorem Below.step {B:Nat} {a w w':World} (h2:Below w.heap.size w w') (h:Below B a w) (hB:B<=w.heap.size):Below B a w':=h.trans (h2.mono hB)
theorem p0_ (w w1:World) (h:w.heap.size<w1.heap.size:=by omega):w.heap.size<w1.heap.size:=h
theorem p1_ (w w1:World) (h:w.heap.size+1<w1.heap.size:=by omega):w.heap.size+1<w1.heap.size:=h
theorem p2_ (w w1:World) (h:w.heap.size+1+1<w1.heap.size:=by omega):w.heap.size+1+1<w1.heap.size:=h
theorem p3_ (w w1:World) (h:w.heap.size+1+1+1<w1.heap.size:=by omega):w.heap.size+1+1+1<w1.heap.size:=h
theorem sz_ {P:Prop} (h:P:=by first|omega|(simp;done)|(simp;omega)):P:=h
theorem bel_ {P:Prop} (h:P:=by(repeat' (first|(with_reducible exact aaj _ _)|(with_reducible assumption)|(with_reducible refine Below.drew ?_)|(with_reducible refine Qn ?_ _)|(with_reducible refine Below.alloc ?_ ?_ _)|(with_reducible refine Below.setCell ?_ ?_ _)|(with_reducible refine Below.step (by assumption) ?_ ?_)));all_goals (first|omega|(simp;done)|(simp;omega))):P:=h
theorem ql:(Tryz.prog.info? 3).map (fun i=>(i.zero,i.size,i.bytes))=some (some (.int .i64 0),1,8):=by kernel_rfl
def OwnI (base:Nat) (w:World) (v:Value) (zs:List Int):Prop:=w.ownsRow base 3 1 v zs.length (zs.map vI)
theorem OwnI.nil (base:Nat) (w:World):OwnI base w (.slice none 0 0) []:=World.ownsRow_nil _ _ _ _
theorem OwnI.alloc {base:Nat} {w:World} {v:Value} {zs:List Int} (h:OwnI base w v zs) (o:Obj):OwnI base (w.alloc o) v zs:=World.ownsRow.alloc h o
theorem OwnI.kept {base:Nat} {w w':World} {v:Value} {zs:List Int} (h:OwnI base w v zs) (hb:Below w.heap.size w w'):OwnI base w' v zs:=by
 refine World.ownsRow.kept (row:=none) h ⟨hb.os,hb.tape,hb.output,hb.size,fun k hk _=>hb.block k hk⟩ ?_
 cases hv:v.ownBlock with
 |none=>exact .inl rfl
 |some k=>exact .inr (by simp)
theorem OwnI.mono {base base':Nat} {w:World} {v:Value} {zs:List Int} (h:OwnI base w v zs) (hb:base'<=base):OwnI base' w v zs:=by
 obtain⟨h1,h2⟩:=h;refine⟨h1,?_⟩
 rcases h2 with h2|⟨g,cap,cur,e1,e2,e3⟩
 ·exact .inl h2
 ·exact .inr ⟨g,cap,cur,e1,aai hb e2,e3⟩
theorem OwnI.lt {base:Nat} {w:World} {v:Value} {zs:List Int} (h:OwnI base w v zs):∀k,v.ownBlock=some k->base<=k/\k<w.heap.size:=World.ownsRow.lt h
theorem OwnI.reads {base:Nat} {w:World} {v:Value} {zs:List Int} (h:OwnI base w v zs):RI w v zs:=by
 obtain⟨h1,h2⟩:=h;refine⟨h1,?_⟩
 rcases h2 with ⟨rfl,hn⟩|⟨g,cap,cur,rfl,_,hh,cO,Co,gj,Fy⟩
 ·exact⟨none,0,by rw[hn],by omega,by rw[hn];simp[maxLen],fun hp=>absurd hp o_⟩
 ·refine⟨_,cap,rfl,cO,by omega,fun hp=>⟨g,0,rfl,?_,fun j u hu=>?_⟩⟩
  ·rcases abk g w.heap.size with Hd|MY
   ·exact Hd
   ·rw[abx MY] at hh;cases hh
  ·rw[aaG,cell_of_row _ _ _ cur 3 (0,0) hh]
   rw[<-Fy] at hu;rw[List.getElem?_take] at hu
   split at hu
   ·simpa using hu
   ·cases hu
theorem OwnI.snoc {base:Nat} {w:World} {v:Value} {zs:List Int} {x:Int} (h:w.ownsRow base 3 1 v (zs.length+1) (zs.map vI++[.int .i64 x])):OwnI base w v (zs++[x]):=by
 unfold OwnI;rw[aaX,aaA];exact h
def RetI (zs:List Int) (w:World) (e:Ending) (w':World):Prop:=∃v,e= .returned v/\OwnI w.heap.size w' v zs/\Below w.heap.size w w'
theorem yE {α:Type} [DecidableEq α] {l r:List α} {k:Nat} (h:l.take k=r.take k) (hl:k<l.length) (hr:k<r.length) (he:l[k]=r[k]):l.take (k+1)=r.take (k+1):=by
 rw[aax hl,aax hr,h,he]
theorem XR (v u:Value) (zs ys:List Int) (w:World) (hv:RI w v zs) (hu:RI w u ys):
  CB_ 58 #[v,u] w (.bool (decide (zs=ys))):=by
 obtain⟨A,c,rfl,hc,hm,hcell⟩:=hv.form;obtain⟨A',c',rfl,Nn,ce,Hs⟩:=hu.form;unfold maxLen at hm ce;clear hv hu
 by_cases Hi:zs.length=ys.length
 ·have e1:((zs.length:Int) != (ys.length:Int))=false:=by simp[Hi]
  have GP:=h_ Hi;clear Hi
  go_enter Tryz.func58,Tryz.ntmps58
  go_wp2
  go_loopw [5] (fun i wr=>∃k:Nat,k<=zs.length/\i= .int .i64 k/\Hid (zs.take k=ys.take k)/\Below w.heap.size w wr) (fun i _=>zs.length -(intOf i).toNat)
  case atStart=>exact⟨0,aab _,rfl,h_ (by simp),aaj _ _⟩
  case round=>
   obtain⟨k,hk,rfl,HT,Hb⟩:=hrel
   by_cases Hd:k<zs.length
   ·obtain⟨b,off,rfl,hb,Ho⟩:=hcell o_
    have fJ:k<ys.length:=by rw[<-GP.out];exact Hd
    obtain⟨b',off',rfl,gw,Gw⟩:=Hs o_;have fK:=(Hb.cell (p:=⟨b,off+k,none⟩) hb).trans (Ho k Hd);have hck':=(Hb.cell (p:=⟨b',off'+k,none⟩) gw).trans (Gw k fJ);have FT:(0:Int)<=(k:Int):=o_
    have cf:(k:Int)<(zs.length:Int):=o_
    have MZ:(k:Int)<(ys.length:Int):=o_
    clear Ho hcell Gw Hs;have HX:=h_ (show zs.getD k 0=zs[k] by simp[List.getD,aac Hd]);have HY:=h_ (show ys.getD k 0=ys[k] by simp[List.getD,aac fJ]);generalize zs.getD k 0=x at*;generalize ys.getD k 0=y at*
    by_cases GI:x=y
    ·have e2:(x != y)=false:=by simp[GI]
     have HE:=h_ GI;clear GI;go_wp2
     go_quiet (fail)
     go_wp2;go_roundw
     case rel=>exact⟨k+1,by omega,by go_num,h_ (yE HT.out Hd fJ (by rw[<-HX.out,<-HY.out,HE.out])),by exact bel_⟩
     case measure=>simp[intOf];omega
    ·have e2:(x != y)=true:=by simp[GI]
     have HE:=h_ GI;clear GI;go_wp2
     go_quiet (fail)
     go_wp2;go_ret
     refine⟨z8 ?_,by exact bel_⟩
     symm
     rw[aaK];intro Fz;exact HE.out (by rw[HX.out,HY.out];simp[Fz])
   ·have Hw:zs.length<=k:=o_
    have Bf:zs=ys:=by
     have h:=HT.out;rw[aaL Hw,aaL (by rw[<-GP.out];exact Hw)] at h;exact h
    have HE:=h_ Bf;clear Bf hcell Hs;go_wp2;go_ret
    exact⟨z8 (by symm;simpa using HE.out),Hb⟩
 ·have e1:((zs.length:Int) != (ys.length:Int))=true:=by simp;omega
  have HE:Hid (¬zs=ys):=h_ (fun h=>Hi (by rw[h]));clear Hi
  go_enter Tryz.func58,Tryz.ntmps58
  go_wp2;go_ret
  exact⟨z8 (by symm;simpa using HE.out),aaj _ _⟩
def runI (a:Int) (n:Nat):List Int:=(List.range n).map fun (i:Nat)=>a+(i:Int)
theorem Qd (a:Int) (n:Nat):(runI a n).length =n:=by simp[runI]
theorem z8L (a:Int) (n i:Nat) (h:i<n):(runI a n).getD i 0=a+i:=by simp[runI,List.getD,h]
def vv (a:Int) (zs:List Int) (k:Nat):List Int:=runI a k++zs.drop k
theorem ZS (a:Int) (zs:List Int) (k:Nat) (h:k<=zs.length):(vv a zs k).length =zs.length:=by simp[vv,Qd];omega
theorem z54 (a:Int) (zs:List Int):vv a zs 0=zs:=by simp[vv,runI]
theorem z7l (a:Int) (zs:List Int):vv a zs zs.length=runI a zs.length:=by simp[vv]
theorem z4W (a:Int) (zs:List Int) (k:Nat) (h:k<zs.length):vv a zs (k+1)=(vv a zs k).set k (a+k):=by
 unfold vv runI;rw[abf,aaA,aan];simp only[aaT,aaU,List.length_map,abr,aaW,if_false,aae,aay,List.cons_append,List.nil_append]
 rw[aas h,aal]
def Marks (base:Nat) (v:Value) (w:World) (r:Value) (zs:List Int) (e:Ending) (w':World):Prop:=
 e= .returned r/\OwnI base w' v zs/\w.grownBy w' v.ownBlock
theorem qq {a w:World} {g:Nat} (h:a.grownBy w (some g)) (j:Nat) (u:Value):a.grownBy (w.setCell ⟨g,j,none⟩ u) (some g):=
 ⟨h.os,h.tape,h.output,by simpa[World.setCell] using h.size,fun i hi gr=>(Below.heap_setCell w ⟨g,j,none⟩ u i (fun e=>gr (by rw[e]))).trans (h.block i hi gr)⟩
theorem Zx (base:Nat) (v:Value) (zs:List Int) (a:Int) (w:World) (h:OwnI base w v zs) (ha:0<=a) (hb:a+zs.length<=1000000000000):
  Calls Tryz.prog 62 #[v,.int .i64 a] w (Marks base v w (.int .i64 (a+zs.length)) (runI a zs.length)):=by
 rcases Gf:h.2 with ⟨rfl,hn⟩|⟨g,cap,cur,rfl,mI,hh,cO,Co,gj,Fy⟩
 ·have hz:zs=[]:=aby hn
  subst hz;clear Gf hn hb
  go_enter Tryz.func62,Tryz.ntmps62
  go_wp2
  go_loop [1,5] (fun x i=>i= .int .i64 0/\x= .int .i64 a) (fun _ _=>0)
  case atStart=>exact⟨rfl,rfl⟩
  case round=>
   obtain⟨rfl,rfl⟩:=hrel;go_wp2;go_ret
   exact⟨by simp,OwnI.nil _ _,World.grownBy.refl _ _⟩
 ·clear Gf hh Fy gj
  have GO:zs.length<=1000000000000:=o_
  go_enter Tryz.func62,Tryz.ntmps62
  go_wp2
  go_loopw [1,5] (fun x i wr=>∃k:Nat,k<=zs.length/\i= .int .i64 k/\x= .int .i64 (a+k)/\OwnI base wr (.slice (some ⟨g,0,none⟩) zs.length cap) (vv a zs k)/\w.grownBy wr (some g)) (fun _ i _=>zs.length -(intOf i).toNat)
  case atStart=>exact⟨0,aab _,rfl,by simp,by rw[z54];exact h,World.grownBy.refl _ _⟩
  case round=>
   obtain⟨k,hk,rfl,rfl,hown,fY⟩:=hrel;have Fe:=ZS a zs k hk
   by_cases Hd:k<zs.length
   ·have MF:wr.ownsRow base 3 1 (.slice (some ⟨g,0,none⟩) zs.length cap) zs.length ((vv a zs k).map vI):=by
     have:=hown;unfold OwnI at this;rw[Fe] at this;exact this
    have hcell:=MF.cellAt k o_;have CP:=MF.frozenAt k
    have hv:((vv a zs k).map vI)[k]? =some (.int .i64 ((vv a zs k).getD k 0)):=by
     rw[aau,aac o_];simp[vI,List.getD,aac (show k<(vv a zs k).length by omega)]
    rw[hv] at hcell;have UM:=MF.stored k (.int .i64 (a+k))
    have HS:OwnI base (wr.setCell ⟨g,k,none⟩ (.int .i64 (a+k))) (.slice (some ⟨g,0,none⟩) zs.length cap) (vv a zs (k+1)):=by
     unfold OwnI;rw[ZS a zs (k+1) o_,z4W a zs k Hd,List.map_set];exact UM.1
    have hgr':=qq fY k (.int .i64 (a+k));generalize (vv a zs k).getD k 0=x at hcell;clear UM hv hown MF Fe h;go_wp2;go_roundw
    case rel=>exact⟨k+1,by omega,by go_num,by go_num,HS,hgr'⟩
    case measure=>simp[intOf];omega
   ·have Hw:k=zs.length:=o_
    subst Hw;rw[z7l] at hown;clear Fe;go_wp2;go_ret
    exact⟨rfl,hown,fY⟩
def z61 (zs:List Int) (a:Int):Int:=if zs=runI a zs.length then a+zs.length else -1
theorem z1E (v:Value) (zs:List Int) (a:Int) (w:World) (h:RI w v zs) (ha:0<=a) (hb:a+zs.length<=1000000000000):
  Calls Tryz.prog 63 #[v,.int .i64 a] w fun e w'=>e= .returned (.int .i64 (z61 zs a))/\w=w':=by
 obtain⟨A,c,rfl,hc,hm,hcell⟩:=h.form;clear h
 go_enter Tryz.func63,Tryz.ntmps63
 go_wp2
 go_loop [1,5] (fun x i=>∃k:Nat,k<=zs.length/\i= .int .i64 k/\x= .int .i64 (a+k)/\Hid (zs.take k=runI a k)) (fun _ i=>zs.length -(intOf i).toNat)
 case atStart=>exact⟨0,aab _,rfl,by simp,h_ (by simp[runI])⟩
 case round=>
  obtain⟨k,hk,rfl,rfl,HT⟩:=hrel
  by_cases Hd:k<zs.length
  ·obtain⟨b,off,rfl,gc,Ho⟩:=hcell o_
   have fK:=Ho k Hd;clear Ho hcell;have HX:=h_ (show zs.getD k 0=zs[k] by simp[List.getD,aac Hd]);generalize zs.getD k 0=x at*
   by_cases GI:x=a+k
   ·have e2:(x != a+(k:Int))=false:=by simp[GI]
    have HE:=h_ GI;clear GI;go_wp2;go_round
    case rel=>
     refine⟨k+1,by omega,by go_num,by go_num,h_ ?_⟩
     rw[aax Hd,HT.out,<-HX.out,HE.out];simp[runI,abf]
    case measure=>simp[intOf];omega
   ·have e2:(x != a+(k:Int))=true:=by simp[GI]
    have HE:=h_ GI;clear GI;go_wp2;go_ret
    refine⟨zb ?_,rfl⟩
    unfold z61;rw[aaq];intro Fz;refine HE.out ?_
    rw[HX.out];have h2:=congrArg (fun l=>l.getD k 0) Fz;simp only[z8L a _ k Hd] at h2
    rw[<-h2];simp[List.getD,aac Hd]
  ·have Hw:k=zs.length:=o_
   subst Hw;have h:=HT.out;rw[aaB] at h;have HE:=h_ h;clear h hcell HT;go_wp2;go_ret
   exact⟨zb (by unfold z61;rw[aao HE.out]),rfl⟩
theorem z2n (v:Value) (n:Nat) (a:Int) (w:World) (h:RI w v (runI a n)) (ha:0<=a) (hb:a+n<=1000000000000):
  Calls Tryz.prog 63 #[v,.int .i64 a] w fun e w'=>e= .returned (.int .i64 (a+n))/\w=w':=by
 refine(z1E v (runI a n) a w h ha (by rw[Qd];exact hb)).mono ?_
 rintro e w' ⟨he,hw⟩;refine⟨he.trans (zb ?_),hw⟩
 unfold z61;rw[Qd,aao rfl]
def mn2 (x y:Int):Int:=if y<x then y else x
def mx2 (x y:Int):Int:=if x<y then y else x
theorem Z5 (x y:Int):mn2 x y=min x y:=by unfold mn2;split<;>omega
theorem kz (x y:Int):mx2 x y=max x y:=by unfold mx2;split<;>omega
section
variable {P:Program} (w:World)
theorem qb (ts:Array TypeId) (t:TypeId) (k k':IntKind) (x y:Int):(Builtin.min_ ts t #[.int k x,.int k' y]).run P w= .ok (.int k (mn2 x y)) w:=by
 rw[run_min_int2];rfl
theorem qf (ts:Array TypeId) (t:TypeId) (k k':IntKind) (x y:Int):(Builtin.max_ ts t #[.int k x,.int k' y]).run P w= .ok (.int k (mx2 x y)) w:=by
 rw[kz];simp[Builtin.max_,Builtin.max2]
 split<;>omega
end
theorem zK {α:Type} (f:α->List Value) (n:Nat) (hf:∀x,(f x).length =n):∀l:List α,(l.flatMap f).length =l.length*n
 | []=>by simp
 |x::l=>by rw[aam,aaX,hf,zK f n hf l,aaV,Nat.add_mul];omega
theorem qi {α:Type} (f:α->List Value) (n:Nat) (hf:∀x,(f x).length =n):∀(l:List α) (k j:Nat) (hk:k<l.length) (hj:j<n),(l.flatMap f)[k*n+j]? =(f l[k])[j]?
 | [],k,j,hk,hj=>absurd hk (by simp)
 |x::l,0,j,hk,hj=>by
  rw[aam,abd (by rw[hf];omega)];simp
 |x::l,k+1,j,hk,hj=>by
  rw[aam,abc (by rw[hf,Nat.add_mul];omega),hf,show(k+1)*n+j -n=k*n+j by rw[Nat.add_mul];omega,
   qi f n hf l k j (by simpa using hk) hj]
  simp
def Blk (w:World) (g:Nat) (t:TypeId) (cs:Array Value):Prop:=w.heap[g]? =some (.cells cs t (0,0))
section
variable {w w':World} {g:Nat} {t:TypeId} {cs:Array Value}
theorem Blk.lt (h:Blk w g t cs):g<w.heap.size:=by
 rcases abk g w.heap.size with Hd|MY
 ·exact Hd
 ·unfold Blk at h;rw[abx MY] at h;cases h
theorem Blk.cell (h:Blk w g t cs) (i:Nat):w.cell? ⟨g,i,none⟩=cs[i]? :=cell_of_row w g i cs t (0,0) h
theorem Blk.frozen (h:Blk w g t cs) (i:Nat):w.frozen? ⟨g,i,none⟩=false:=by
 unfold Blk at h;simp[World.frozen?,h]
theorem Blk.new (w:World) (t:TypeId) (cs:Array Value):Blk (w.alloc (.cells cs t)) w.heap.size t cs:=heap_alloc_new w _
theorem Blk.drew (h:Blk w g t cs):Blk w.drew g t cs:=h
theorem Blk.alloc (h:Blk w g t cs) (o:Obj):Blk (w.alloc o) g t cs:=(Below.heap_alloc w o g h.lt).trans h
theorem Blk.set_ (h:Blk w g t cs) (i:Nat) (u:Value):Blk (w.setCell ⟨g,i,none⟩ u) g t (cs.setIfInBounds i u):=by
 unfold Blk at h⊢;simp[World.setCell,Array.getElem?_modify,h]
theorem Blk.far (h:Blk w g t cs) {p:Addr} (hp:g≠p.block) (u:Value):Blk (w.setCell p u) g t cs:=(Below.heap_setCell w p u g hp).trans h
theorem Blk.below {B:Nat} (h:Blk w g t cs) (hb:Below B w w') (hg:g<B):Blk w' g t cs:=(hb.block g hg).trans h
end
theorem Blk.c2 {w:World} {g:Nat} {t:TypeId} {v0 v1:Value} (h:Blk w g t #[v0,v1]):w.cell? ⟨g,0,none⟩=some v0/\w.cell? ⟨g,1,none⟩=some v1:=⟨h.cell 0,h.cell 1⟩
theorem Blk.b2 {w:World} {g:Nat} {t:TypeId} {v0 v1:Value} (h:Blk w g t #[v0,v1]):w.cell? ⟨g,0,none⟩=some v0/\w.cell? ⟨g,1,none⟩=some v1/\w.frozen? ⟨g,0,none⟩=false/\w.frozen? ⟨g,1,none⟩=false:=⟨h.cell 0,h.cell 1,h.frozen 0,h.frozen 1⟩
theorem Blk.c3 {w:World} {g:Nat} {t:TypeId} {v0 v1 v2:Value} (h:Blk w g t #[v0,v1,v2]):w.cell? ⟨g,0,none⟩=some v0/\w.cell? ⟨g,1,none⟩=some v1/\w.cell? ⟨g,2,none⟩=some v2:=⟨h.cell 0,h.cell 1,h.cell 2⟩
theorem Blk.c5 {w:World} {g:Nat} {t:TypeId} {v0 v1 v2 v3 v4:Value} (h:Blk w g t #[v0,v1,v2,v3,v4]):w.cell? ⟨g,0,none⟩=some v0/\w.cell? ⟨g,1,none⟩=some v1/\w.cell? ⟨g,2,none⟩=some v2/\w.cell? ⟨g,3,none⟩=some v3/\w.cell? ⟨g,4,none⟩=some v4:=⟨h.cell 0,h.cell 1,h.cell 2,h.cell 3,h.cell 4⟩
theorem Blk.b5 {w:World} {g:Nat} {t:TypeId} {v0 v1 v2 v3 v4:Value} (h:Blk w g t #[v0,v1,v2,v3,v4]):w.cell? ⟨g,0,none⟩=some v0/\w.cell? ⟨g,1,none⟩=some v1/\w.cell? ⟨g,2,none⟩=some v2/\w.cell? ⟨g,3,none⟩=some v3/\w.cell? ⟨g,4,none⟩=some v4/\w.frozen? ⟨g,0,none⟩=false/\w.frozen? ⟨g,1,none⟩=false/\w.frozen? ⟨g,2,none⟩=false/\w.frozen? ⟨g,3,none⟩=false/\w.frozen? ⟨g,4,none⟩=false:=⟨h.cell 0,h.cell 1,h.cell 2,h.cell 3,h.cell 4,h.frozen 0,h.frozen 1,h.frozen 2,h.frozen 3,h.frozen 4⟩
theorem Blk.c8 {w:World} {g:Nat} {t:TypeId} {v0 v1 v2 v3 v4 v5 v6 v7:Value} (h:Blk w g t #[v0,v1,v2,v3,v4,v5,v6,v7]):w.cell? ⟨g,0,none⟩=some v0/\w.cell? ⟨g,1,none⟩=some v1/\w.cell? ⟨g,2,none⟩=some v2/\w.cell? ⟨g,3,none⟩=some v3/\w.cell? ⟨g,4,none⟩=some v4/\w.cell? ⟨g,5,none⟩=some v5/\w.cell? ⟨g,6,none⟩=some v6/\w.cell? ⟨g,7,none⟩=some v7:=⟨h.cell 0,h.cell 1,h.cell 2,h.cell 3,h.cell 4,h.cell 5,h.cell 6,h.cell 7⟩
theorem Blk.b8 {w:World} {g:Nat} {t:TypeId} {v0 v1 v2 v3 v4 v5 v6 v7:Value} (h:Blk w g t #[v0,v1,v2,v3,v4,v5,v6,v7]):w.cell? ⟨g,0,none⟩=some v0/\w.cell? ⟨g,1,none⟩=some v1/\w.cell? ⟨g,2,none⟩=some v2/\w.cell? ⟨g,3,none⟩=some v3/\w.cell? ⟨g,4,none⟩=some v4/\w.cell? ⟨g,5,none⟩=some v5/\w.cell? ⟨g,6,none⟩=some v6/\w.cell? ⟨g,7,none⟩=some v7/\w.frozen? ⟨g,0,none⟩=false/\w.frozen? ⟨g,1,none⟩=false/\w.frozen? ⟨g,2,none⟩=false/\w.frozen? ⟨g,3,none⟩=false/\w.frozen? ⟨g,4,none⟩=false/\w.frozen? ⟨g,5,none⟩=false/\w.frozen? ⟨g,6,none⟩=false/\w.frozen? ⟨g,7,none⟩=false:=⟨h.cell 0,h.cell 1,h.cell 2,h.cell 3,h.cell 4,h.cell 5,h.cell 6,h.cell 7,h.frozen 0,h.frozen 1,h.frozen 2,h.frozen 3,h.frozen 4,h.frozen 5,h.frozen 6,h.frozen 7⟩
theorem Blk.newAt {w:World} {g:Nat} {t:TypeId} {cs:Array Value} (h:g=w.heap.size):Blk (w.alloc (.cells cs t)) g t cs:=by
 subst h;exact Blk.new w t cs
theorem kE {base:Nat} {w:World} {e:TypeId} {size:Nat} {v:Value} {n:Nat} {xs:List Value} (h:w.ownsRow base e size v n xs):RS w size v n xs:=by
 obtain⟨h1,h2⟩:=h;refine⟨h1,?_⟩
 rcases h2 with ⟨rfl,hn⟩|⟨g,cap,cur,rfl,_,hh,cO,Co,gj,Fy⟩
 ·exact⟨none,0,by rw[hn],by omega,by rw[hn];simp[maxLen],fun hp=>absurd hp o_⟩
 ·refine⟨_,cap,rfl,cO,by omega,fun hp=>⟨g,0,rfl,?_,fun j u hu=>?_⟩⟩
  ·rcases abk g w.heap.size with Hd|MY
   ·exact Hd
   ·rw[abx MY] at hh;cases hh
  ·rw[aaG,cell_of_row _ _ _ cur e (0,0) hh]
   rw[<-Fy] at hu;rw[List.getElem?_take] at hu
   split at hu
   ·simpa using hu
   ·cases hu
theorem zZ {base:Nat} {w w':World} {e:TypeId} {size:Nat} {v:Value} {n:Nat} {xs:List Value} (h:w.ownsRow base e size v n xs) (hb:Below w.heap.size w w'):w'.ownsRow base e size v n xs:=by
 refine World.ownsRow.kept (row:=none) h ⟨hb.os,hb.tape,hb.output,hb.size,fun k hk _=>hb.block k hk⟩ ?_
 cases hv:v.ownBlock with
 |none=>exact .inl rfl
 |some k=>exact .inr (by simp)
theorem Blk.grown {w w':World} {b g:Nat} {t:TypeId} {cs:Array Value} (h:Blk w b t cs) (hg:w.grownBy w' (some g)) (gr:b≠g):Blk w' b t cs:=
 (hg.block b h.lt (fun e=>gr (by cases e;rfl))).trans h
def szF (n:Int) (k:Nat):Int:=if n<k then -1 else n -k
theorem OwnI.cell {base:Nat} {w:World} {g cap n:Nat} {G:List Int} (h:OwnI base w (.slice (some ⟨g,0,none⟩) n cap) G) {q:Nat} (hq:q<G.length):w.cell? ⟨g,q,none⟩=some (.int .i64 (G.getD q 0)):=by
 have hn:=h.1;have ho:w.ownsRow base 3 1 (.slice (some ⟨g,0,none⟩) n cap) G.length (G.map vI):=h
 have e:n=G.length:=by
  rcases ho.2 with ⟨e,_⟩|⟨g',cap',cur,e,_⟩
  ·cases e
  ·injection e
 subst e;rw[ho.cellAt q o_,aau,aac hq];simp[vI,List.getD,aac hq]
theorem OwnI.frz {base:Nat} {w:World} {g cap n:Nat} {G:List Int} (h:OwnI base w (.slice (some ⟨g,0,none⟩) n cap) G) (q:Nat):w.frozen? ⟨g,q,none⟩=false:=by
 have ho:w.ownsRow base 3 1 (.slice (some ⟨g,0,none⟩) n cap) G.length (G.map vI):=h
 have e:n=G.length:=by
  rcases ho.2 with ⟨e,_⟩|⟨g',cap',cur,e,_⟩
  ·cases e
  ·injection e
 subst e;exact ho.frozenAt q
theorem OwnI.set_ {base:Nat} {w:World} {g cap n:Nat} {G:List Int} (h:OwnI base w (.slice (some ⟨g,0,none⟩) n cap) G) (q:Nat) (x:Int):
  OwnI base (w.setCell ⟨g,q,none⟩ (.int .i64 x)) (.slice (some ⟨g,0,none⟩) n cap) (G.set q x):=by
 have ho:w.ownsRow base 3 1 (.slice (some ⟨g,0,none⟩) n cap) G.length (G.map vI):=h
 have e:n=G.length:=by
  rcases ho.2 with ⟨e,_⟩|⟨g',cap',cur,e,_⟩
  ·cases e
  ·injection e
 subst e;have:=(ho.stored q (.int .i64 x)).1;unfold OwnI;rw[aar,List.map_set];exact this
theorem OwnI.far {base:Nat} {w w':World} {v:Value} {zs:List Int} {row:Option Nat} (h:OwnI base w v zs) (hg:w.grownBy w' row) (hr:∀k,row=some k->k<base):OwnI base w' v zs:=by
 refine World.ownsRow.kept h hg ?_
 cases hv:v.ownBlock with
 |none=>exact .inl rfl
 |some k=>
  right
  rintro rfl;have:=hr k rfl;have:=(OwnI.lt h k hv).1;omega
theorem Z9 (v u:Value) (zs:List Int) (w:World) (hv:RI w v zs) (hu:RI w u zs):
  CB_ 58 #[v,u] w (.bool true):=
 (XR v u zs zs w hv hu).mono fun e w' ⟨he,hw⟩=>⟨he.trans (z8 (by simp)),hw⟩
def prc (p:Int×Int):List Value:=[.int .i64 p.1,.int .i64 p.2]
def RP (w:World) (v:Value) (l:List (Int×Int)):Prop:=RS w 2 v l.length (l.flatMap prc)
theorem RP.below {w w':World} {v:Value} {l:List (Int×Int)} (h:RP w v l) (hb:Below w.heap.size w w'):RP w' v l:=RS.below h hb
theorem RP.nil (w:World):RP w (.slice none 0 0) []:=RS.nil w 2
theorem RP.form {w:World} {v:Value} {l:List (Int×Int)} (h:RP w v l):∃A c,v= .slice A l.length c/\l.length<=c/\l.length<=maxLen/\
  (0<l.length->∃b off,A=some ⟨b,off,none⟩/\b<w.heap.size/\∀k (hk:k<l.length),w.cell? ⟨b,off+k*2,none⟩=some (.int .i64 l[k].1)/\w.cell? ⟨b,off+k*2+1,none⟩=some (.int .i64 l[k].2)):=by
 obtain⟨_,A,c,hv,h1,h2,h3⟩:=h;refine⟨A,c,hv,h1,h2,fun hn=>?_⟩
 obtain⟨b,off,hA,Hd,hc⟩:=h3 hn;refine⟨b,off,hA,Hd,fun k hk=>?_⟩
 have g:=fun j hj=>qi prc 2 (fun _=>rfl) l k j hk hj
 refine⟨?_,?_⟩
 ·exact hc (k*2+0) _ (by rw[g 0 o_];rfl)
 ·have:=hc (k*2+1) _ (by rw[g 1 o_];rfl);rwa [<-aak] at this
theorem jk {w:World} {l:List (Int×Int)} {cs:Array Value} {t:TypeId} {g n c:Nat} (hg:g=w.heap.size) (Gu:cs.toList=l.flatMap prc) (hn:n=l.length) (hc:c=l.length) (hm:l.length<=maxLen):
  RP (w.alloc (.cells cs t)) (.slice (some ⟨g,0,none⟩) n c) l:=by
 subst hg hn hc;refine⟨zK prc 2 (fun _=>rfl) l,_,_,rfl,by omega,hm,fun hn=>⟨w.heap.size,0,rfl,by simp,fun j u hu=>?_⟩⟩
 rw[<-Gu] at hu;have mu:cs[j]? =some u:=by simpa using hu
 rw[aaG,cell_of_row _ _ _ cs t (0,0) (heap_alloc_new w _)];exact mu
def OwnP (t:TypeId) (base:Nat) (w:World) (v:Value) (l:List (Int×Int)):Prop:=w.ownsRow base t 2 v l.length (l.flatMap prc)
def RetP (t:TypeId) (l:List (Int×Int)) (w:World) (e:Ending) (w':World):Prop:=∃A c,e= .returned (.slice A l.length c)/\OwnP t w.heap.size w' (.slice A l.length c) l/\Below w.heap.size w w'
theorem OwnP.form {t:TypeId} {base:Nat} {w:World} {v:Value} {l:List (Int×Int)} (h:OwnP t base w v l):∃A c,v= .slice A l.length c:=by
 rcases h.2 with ⟨rfl,hn⟩|⟨g,cap,cur,rfl,_⟩
 ·exact⟨none,0,by rw[hn]⟩
 ·exact⟨_,_,rfl⟩
theorem RetP.mk {t:TypeId} {l:List (Int×Int)} {w w':World} {v:Value} (h:OwnP t w.heap.size w' v l) (hb:Below w.heap.size w w'):RetP t l w (.returned v) w':=by
 obtain⟨A,c,rfl⟩:=h.form;exact⟨A,c,rfl,h,hb⟩
section
variable {t:TypeId} {base:Nat} {w w':World} {v:Value} {l:List (Int×Int)}
theorem OwnP.nil (t:TypeId) (base:Nat) (w:World):OwnP t base w (.slice none 0 0) []:=World.ownsRow_nil _ _ _ _
theorem OwnP.reads (h:OwnP t base w v l):RP w v l:=kE h
theorem OwnP.kept (h:OwnP t base w v l) (hb:Below w.heap.size w w'):OwnP t base w' v l:=zZ h hb
theorem OwnP.alloc (h:OwnP t base w v l) (o:Obj):OwnP t base (w.alloc o) v l:=World.ownsRow.alloc h o
theorem OwnP.drew (h:OwnP t base w v l):OwnP t base w.drew v l:=h
theorem OwnP.lt (h:OwnP t base w v l):∀k,v.ownBlock=some k->base<=k/\k<w.heap.size:=World.ownsRow.lt h
theorem OwnP.mono {base':Nat} (h:OwnP t base w v l) (hb:base'<=base):OwnP t base' w v l:=by
 obtain⟨h1,h2⟩:=h;refine⟨h1,?_⟩
 rcases h2 with h2|⟨g,cap,cur,e1,e2,e3⟩
 ·exact .inl h2
 ·exact .inr ⟨g,cap,cur,e1,aai hb e2,e3⟩
theorem OwnP.far {row:Option Nat} (h:OwnP t base w v l) (hg:w.grownBy w' row) (hr:∀k,row=some k->k<base):OwnP t base w' v l:=by
 refine World.ownsRow.kept h hg ?_
 cases hv:v.ownBlock with
 |none=>exact .inl rfl
 |some k=>
  right
  rintro rfl;have:=hr k rfl;have:=(OwnP.lt h k hv).1;omega
end
theorem OwnP.apart {t:TypeId} {base:Nat} {w w':World} {v:Value} {l:List (Int×Int)} {row:Option Nat} (h:OwnP t base w v l) (hg:w.grownBy w' row) (hr:∀k,v.ownBlock=some k->row=some k->False):OwnP t base w' v l:=by
 refine World.ownsRow.kept h hg ?_
 cases hv:v.ownBlock with
 |none=>exact .inl rfl
 |some k=>exact .inr (fun e=>hr k hv e.symm)
theorem qR (w:World) (p:Addr) (u:Value):w.grownBy (w.setCell p u) (some p.block):=
 ⟨rfl,rfl,rfl,by simp[World.setCell],fun i hi gr=>Below.heap_setCell w p u i (fun e=>gr (by rw[e]))⟩
theorem OwnP.setLow {t:TypeId} {base:Nat} {w:World} {v:Value} {l:List (Int×Int)} (h:OwnP t base w v l) {p:Addr} (hp:p.block<base) (u:Value):OwnP t base (w.setCell p u) v l:=
 h.far (qR w p u) (fun k hk=>by cases hk;exact hp)
theorem OwnP.len {t:TypeId} {base:Nat} {w:World} {g n cap:Nat} {G:List (Int×Int)} (h:OwnP t base w (.slice (some ⟨g,0,none⟩) n cap) G):n=G.length:=by
 have ho:w.ownsRow base t 2 (.slice (some ⟨g,0,none⟩) n cap) G.length (G.flatMap prc):=h
 rcases ho.2 with ⟨e,_⟩|⟨g',cap',cur,e,_⟩
 ·cases e
 ·injection e
theorem z2H:∀(l:List (Int×Int)) (k:Nat) (x:Int×Int),k<l.length->(l.set k x).flatMap prc=((l.flatMap prc).set (k*2) (.int .i64 x.1)).set (k*2+1) (.int .i64 x.2)
 | [],k,x,h=>absurd h (by simp)
 |a::l,0,x,h=>by simp[prc]
 |a::l,k+1,x,h=>by
  have ih:=z2H l k x (by simpa using h);have e:(k+1)*2=k*2+1+1:=o_
  rw[aap,aam,ih,aam,e];simp[prc]
theorem OwnP.cell {t:TypeId} {base:Nat} {w:World} {g n cap:Nat} {G:List (Int×Int)} (h:OwnP t base w (.slice (some ⟨g,0,none⟩) n cap) G) {q:Nat} (hq:q<G.length):
  w.cell? ⟨g,q*2,none⟩=some (.int .i64 G[q].1)/\w.cell? ⟨g,q*2+1,none⟩=some (.int .i64 G[q].2):=by
 have e:=h.len;subst e;have ho:w.ownsRow base t 2 (.slice (some ⟨g,0,none⟩) G.length cap) G.length (G.flatMap prc):=h;have g':=fun j hj=>qi prc 2 (fun _=>rfl) G q j hq hj
 refine⟨?_,?_⟩
 ·rw[ho.cellAt _ o_];have:=g' 0 o_;rw[aaf] at this;rw[this];rfl
 ·rw[ho.cellAt _ o_,g' 1 o_];rfl
theorem OwnP.frz {t:TypeId} {base:Nat} {w:World} {g n cap:Nat} {G:List (Int×Int)} (h:OwnP t base w (.slice (some ⟨g,0,none⟩) n cap) G) (q:Nat):w.frozen? ⟨g,q,none⟩=false:=by
 have e:=h.len;subst e;have ho:w.ownsRow base t 2 (.slice (some ⟨g,0,none⟩) G.length cap) G.length (G.flatMap prc):=h;exact ho.frozenAt q
theorem OwnP.set_ {t:TypeId} {base:Nat} {w:World} {g n cap:Nat} {G:List (Int×Int)} (h:OwnP t base w (.slice (some ⟨g,0,none⟩) n cap) G) {q:Nat} (hq:q<G.length) (x y:Int):
  OwnP t base ((w.setCell ⟨g,q*2,none⟩ (.int .i64 x)).setCell ⟨g,q*2+1,none⟩ (.int .i64 y)) (.slice (some ⟨g,0,none⟩) n cap) (G.set q (x,y)):=by
 have e:=h.len;subst e;have ho:w.ownsRow base t 2 (.slice (some ⟨g,0,none⟩) G.length cap) G.length (G.flatMap prc):=h;have:=((ho.stored (q*2) (.int .i64 x)).1.stored (q*2+1) (.int .i64 y)).1;unfold OwnP;rw[aar,z2H G q (x,y) hq];exact this
def vW (l:List (Int×Int)) (k:Nat):List (Int×Int):=l.take k++List.replicate (l.length -k) (0,0)
theorem ZK (l:List (Int×Int)) (k:Nat) (h:k<=l.length):(vW l k).length =l.length:=by simp[vW];omega
theorem VA (l:List (Int×Int)):vW l 0=List.replicate l.length (0,0):=by simp[vW]
theorem z1a (l:List (Int×Int)):vW l l.length=l:=by simp[vW]
theorem Xw (l:List (Int×Int)) (k:Nat) (h:k<l.length):vW l (k+1)=(vW l k).set k l[k]:=by
 unfold vW;have e:l.length -k=(l.length -(k+1))+1:=o_
 rw[aax h,aan,aaq (by simp;omega),e,List.replicate_succ];have hl:(List.take k l).length =k:=by simp;omega
 rw[hl,aae,aal,aay,List.cons_append,List.nil_append]
theorem made2 (n:Nat):(madeCells #[.int .i64 0,.int .i64 0] (n*2)).toList =(List.replicate n ((0:Int),(0:Int))).flatMap prc:=by
 apply aat
 intro j
 by_cases hj:j<n*2
 ·have h1:=qi prc 2 (fun _=>rfl) (List.replicate n ((0:Int),(0:Int))) (j/2) (j%2) (by simp;omega) o_
  rw[show j/2*2+j%2=j by omega] at h1;rw[h1];simp only[madeCells,Array.toList_map,aau,Array.toList_range,aav hj,aaw]
  show some (#[Value.int .i64 0,.int .i64 0][j%2]!)=_
  have:j%2=0∨j%2=1:=o_
  rcases this with h|h<;>rw[h]<;>simp[prc]
 ·rw[List.getElem?_eq_none (by simp[madeCells];omega),List.getElem?_eq_none (by rw[zK prc 2 (fun _=>rfl)];simp;omega)]
def prB (a b c d:Int):Bool:=a==c&&b==d
theorem kh {a b c d:Int}:prB a b c d=true↔(a,b)=(c,d):=by simp[prB]
theorem xY (a b:Int):prB a b a b=true:=by simp[prB]
theorem zv (a b c d:Int) (w:World):(binOp .eql 106 (.agg #[.int .i64 a,.int .i64 b]) (.agg #[.int .i64 c,.int .i64 d])).run Tryz.prog w= .ok (.bool (prB a b c d)) w:=by
 go_simp;unfold prB
 by_cases h1:a=c<;>by_cases h2:b=d<;>simp[h1,h2]
theorem Z1 (a b c d:Int) (w:World):(binOp .eql 108 (.agg #[.int .i64 a,.int .i64 b]) (.agg #[.int .i64 c,.int .i64 d])).run Tryz.prog w= .ok (.bool (prB a b c d)) w:=by
 go_simp;unfold prB
 by_cases h1:a=c<;>by_cases h2:b=d<;>simp[h1,h2]
theorem zu (a b c d:Int) (w:World):(binOp .neq 106 (.agg #[.int .i64 a,.int .i64 b]) (.agg #[.int .i64 c,.int .i64 d])).run Tryz.prog w= .ok (.bool (!(prB a b c d))) w:=by
 go_simp;unfold prB
 by_cases h1:a=c<;>by_cases h2:b=d<;>simp[h1,h2]
theorem Z4 (a b c d:Int) (w:World):(binOp .neq 108 (.agg #[.int .i64 a,.int .i64 b]) (.agg #[.int .i64 c,.int .i64 d])).run Tryz.prog w= .ok (.bool (!(prB a b c d))) w:=by
 go_simp;unfold prB
 by_cases h1:a=c<;>by_cases h2:b=d<;>simp[h1,h2]
theorem z35 (v:Value) (l:List (Int×Int)) (n:Int) (w:World) (h:RP w v l) (h0:0<=n) (h1:n<=1000000000):
  Calls Tryz.prog 220 #[v,.int .i64 n] w fun e w'=>e= .returned (.int .i64 (szF n l.length))/\w=w':=by
 obtain⟨A,c,rfl,hc,hm,hcell⟩:=h.form;unfold maxLen at hm;clear h hcell
 by_cases Hd:n<l.length
 ·have fS:n -(l.length:Int)<0:=o_
  have HF:Hid (szF n l.length= -1):=h_ (by unfold szF;rw[aao Hd])
  go_enter Tryz.func220,Tryz.ntmps220
  go_wp2
  all_goals go_ret
  all_goals exact⟨zb HF.out.symm,rfl⟩
 ·have fS:¬n -(l.length:Int)<0:=o_
  have HF:Hid (szF n l.length=n -l.length):=h_ (by unfold szF;rw[aaq Hd])
  go_enter Tryz.func220,Tryz.ntmps220
  go_wp2
  all_goals go_ret
  all_goals exact⟨zb HF.out.symm,rfl⟩
theorem z2E (v:Value) (l:List (Int×Int)) (n:Int) (w:World) (h:RP w v l) (h0:0<=n) (h1:n<=1000000000):
  Calls Tryz.prog 221 #[v,.int .i64 n] w fun e w'=>e= .returned (.int .i64 (szF n l.length))/\w=w':=by
 obtain⟨A,c,rfl,hc,hm,hcell⟩:=h.form;unfold maxLen at hm;clear h hcell
 by_cases Hd:n<l.length
 ·have fS:n -(l.length:Int)<0:=o_
  have HF:Hid (szF n l.length= -1):=h_ (by unfold szF;rw[aao Hd])
  go_enter Tryz.func221,Tryz.ntmps221
  go_wp2
  all_goals go_ret
  all_goals exact⟨zb HF.out.symm,rfl⟩
 ·have fS:¬n -(l.length:Int)<0:=o_
  have HF:Hid (szF n l.length=n -l.length):=h_ (by unfold szF;rw[aaq Hd])
  go_enter Tryz.func221,Tryz.ntmps221
  go_wp2
  all_goals go_ret
  all_goals exact⟨zb HF.out.symm,rfl⟩
theorem z5a (a b:Int) (w:World):
  CB_ 252 #[.agg #[.int .i64 a,.int .i64 b]] w (.agg #[.int .i64 a,.int .i64 b]):=by
 go_enter Tryz.func252,Tryz.ntmps252
 go_wp2;exact bodyPost_ret (v:= .agg #[.int .i64 a,.int .i64 b]) (by simp[results,Tryz.results252,go_sem]) rfl ⟨rfl,by exact bel_⟩
theorem z5o (a b:Int) (w:World):
  CB_ 253 #[.agg #[.int .i64 a,.int .i64 b]] w (.agg #[.int .i64 a,.int .i64 b]):=by
 go_enter Tryz.func253,Tryz.ntmps253
 go_wp2;exact bodyPost_ret (v:= .agg #[.int .i64 a,.int .i64 b]) (by simp[results,Tryz.results253,go_sem]) rfl ⟨rfl,by exact bel_⟩
theorem Qj:(Tryz.prog.info? 106).map (fun i=>(i.zero,i.size,i.bytes))=some (some (.agg #[.int .i64 0,.int .i64 0]),2,16):=by kernel_rfl
theorem jc:(Tryz.prog.info? 108).map (fun i=>(i.zero,i.size,i.bytes))=some (some (.agg #[.int .i64 0,.int .i64 0]),2,16):=by kernel_rfl
theorem z38 (v:Value) (l:List (Int×Int)) (w:World) (h:RP w v l) (hle:l.length<=1048576):
  Calls Tryz.prog 224 #[v] w (RetP 106 l w):=by
 obtain⟨A,c,rfl,hc,hm,hcell⟩:=h.form;clear h hm;obtain⟨i0,hi,iz0,iz1,iz2⟩:=info_parts Qj
 go_enter Tryz.func224,Tryz.ntmps224
 go_wp2_with (at_make;refine wpList_make_full _ rfl _ _ 24 rfl w.heap.size 106 i0 (.agg #[.int .i64 0,.int .i64 0]) 2 Tryz.underlying24 hi iz0 iz1 .i64 .i64 _ _ l.length rfl rfl rfl rfl (by rw[iz2];omega) (by unfold maxLen;omega) (aaa _) ?_)
 intro w1 Hz gQ;have h9:Below w.heap.size w w1:=(aaj _ _).grown gQ (aaa _) (by intro k hk;cases hk)
 have hown:OwnP 106 w.heap.size w1 (.slice (some ⟨w.heap.size,0,none⟩) l.length l.length) (vW l 0):=by
  unfold OwnP;rw[made2] at Hz;rw[VA,aaD];exact Hz
 clear Hz gQ iz0 iz1 iz2 hi;go_wp2
 go_loopw [4] (fun i wr=>∃k:Nat,k<=l.length/\i= .int .i64 k/\OwnP 106 w.heap.size wr (.slice (some ⟨w.heap.size,0,none⟩) l.length l.length) (vW l k)/\Below w.heap.size w wr) (fun i _=>l.length -(intOf i).toNat)
 case atStart=>exact⟨0,aab _,rfl,hown,h9⟩
 case round=>
  obtain⟨k,hk,rfl,ho,Hb⟩:=hrel;have gj:=Hb.size;clear hown h9
  by_cases Hd:k<l.length
  ·obtain⟨b,off,rfl,hb,Ho⟩:=hcell o_
   obtain⟨k0,k1⟩:=Ho k Hd;have q0:=(Hb.cell (p:=⟨b,off+k*2,none⟩) hb).trans k0;have q1:=(Hb.cell (p:=⟨b,off+k*2+1,none⟩) hb).trans k1;clear k0 k1 Ho hcell
   go_wp2_with fail
   refine(z5a _ _ _).mono ?_
   rintro e w2 ⟨rfl,He⟩;have Hm:=ho.kept He;have gn:Below w.heap.size w w2:=bel_
   have GB:=ZK l k o_;have xx:=Hm.cell (q:=k) o_;obtain⟨z0,x0⟩:∃z,w2.cell? ⟨w.heap.size,k*2,none⟩=some z:=⟨_,xx.1⟩;obtain⟨z1,x1⟩:∃z,w2.cell? ⟨w.heap.size,k*2+1,none⟩=some z:=⟨_,xx.2⟩;have f0:=Hm.frz (k*2);have f1:=Hm.frz (k*2+1);have s4:=Hm.set_ (q:=k) o_ l[k].1 l[k].2
   have s5:OwnP 106 w.heap.size ((w2.setCell ⟨w.heap.size,k*2,none⟩ (.int .i64 l[k].1)).setCell ⟨w.heap.size,k*2+1,none⟩ (.int .i64 l[k].2)) (.slice (some ⟨w.heap.size,0,none⟩) l.length l.length) (vW l (k+1)):=by
    rw[Xw l k Hd];exact s4
   have HB:=(gn.setCell (p:=⟨w.heap.size,k*2,none⟩) (aaa _) (.int .i64 l[k].1)).setCell (p:=⟨w.heap.size,k*2+1,none⟩) (aaa _) (.int .i64 l[k].2);have HS:=h_ s5;have mv:=h_ HB;clear xx s4 s5 HB gn Hm ho He Hb GB;go_wp2;go_roundw
   case rel=>exact⟨k+1,by omega,by go_num,HS.out,mv.out⟩
   case measure=>simp[intOf];omega
  ·have Hw:k=l.length:=o_
   subst Hw;rw[z1a] at ho;have HO:=h_ ho;have HB:=h_ Hb;clear ho Hb hcell;go_wp2;go_ret
   exact RetP.mk HO.out HB.out
theorem z3L (v:Value) (l:List (Int×Int)) (w:World) (h:RP w v l) (hle:l.length<=1048576):
  Calls Tryz.prog 225 #[v] w (RetP 108 l w):=by
 obtain⟨A,c,rfl,hc,hm,hcell⟩:=h.form;clear h hm;obtain⟨i0,hi,iz0,iz1,iz2⟩:=info_parts jc
 go_enter Tryz.func225,Tryz.ntmps225
 go_wp2_with (at_make;refine wpList_make_full _ rfl _ _ 25 rfl w.heap.size 108 i0 (.agg #[.int .i64 0,.int .i64 0]) 2 Tryz.underlying25 hi iz0 iz1 .i64 .i64 _ _ l.length rfl rfl rfl rfl (by rw[iz2];omega) (by unfold maxLen;omega) (aaa _) ?_)
 intro w1 Hz gQ;have h9:Below w.heap.size w w1:=(aaj _ _).grown gQ (aaa _) (by intro k hk;cases hk)
 have hown:OwnP 108 w.heap.size w1 (.slice (some ⟨w.heap.size,0,none⟩) l.length l.length) (vW l 0):=by
  unfold OwnP;rw[made2] at Hz;rw[VA,aaD];exact Hz
 clear Hz gQ iz0 iz1 iz2 hi;go_wp2
 go_loopw [4] (fun i wr=>∃k:Nat,k<=l.length/\i= .int .i64 k/\OwnP 108 w.heap.size wr (.slice (some ⟨w.heap.size,0,none⟩) l.length l.length) (vW l k)/\Below w.heap.size w wr) (fun i _=>l.length -(intOf i).toNat)
 case atStart=>exact⟨0,aab _,rfl,hown,h9⟩
 case round=>
  obtain⟨k,hk,rfl,ho,Hb⟩:=hrel;have gj:=Hb.size;clear hown h9
  by_cases Hd:k<l.length
  ·obtain⟨b,off,rfl,hb,Ho⟩:=hcell o_
   obtain⟨k0,k1⟩:=Ho k Hd;have q0:=(Hb.cell (p:=⟨b,off+k*2,none⟩) hb).trans k0;have q1:=(Hb.cell (p:=⟨b,off+k*2+1,none⟩) hb).trans k1;clear k0 k1 Ho hcell
   go_wp2_with fail
   refine(z5o _ _ _).mono ?_
   rintro e w2 ⟨rfl,He⟩;have Hm:=ho.kept He;have gn:Below w.heap.size w w2:=bel_
   have GB:=ZK l k o_;have xx:=Hm.cell (q:=k) o_;obtain⟨z0,x0⟩:∃z,w2.cell? ⟨w.heap.size,k*2,none⟩=some z:=⟨_,xx.1⟩;obtain⟨z1,x1⟩:∃z,w2.cell? ⟨w.heap.size,k*2+1,none⟩=some z:=⟨_,xx.2⟩;have f0:=Hm.frz (k*2);have f1:=Hm.frz (k*2+1);have s4:=Hm.set_ (q:=k) o_ l[k].1 l[k].2
   have s5:OwnP 108 w.heap.size ((w2.setCell ⟨w.heap.size,k*2,none⟩ (.int .i64 l[k].1)).setCell ⟨w.heap.size,k*2+1,none⟩ (.int .i64 l[k].2)) (.slice (some ⟨w.heap.size,0,none⟩) l.length l.length) (vW l (k+1)):=by
    rw[Xw l k Hd];exact s4
   have HB:=(gn.setCell (p:=⟨w.heap.size,k*2,none⟩) (aaa _) (.int .i64 l[k].1)).setCell (p:=⟨w.heap.size,k*2+1,none⟩) (aaa _) (.int .i64 l[k].2);have HS:=h_ s5;have mv:=h_ HB;clear xx s4 s5 HB gn Hm ho He Hb GB;go_wp2;go_roundw
   case rel=>exact⟨k+1,by omega,by go_num,HS.out,mv.out⟩
   case measure=>simp[intOf];omega
  ·have Hw:k=l.length:=o_
   subst Hw;rw[z1a] at ho;have HO:=h_ ho;have HB:=h_ Hb;clear ho Hb hcell;go_wp2;go_ret
   exact RetP.mk HO.out HB.out
theorem z5l (a b a' b':Int) (w:World):
  Calls Tryz.prog 255 #[.agg #[.int .i64 a,.int .i64 b],.agg #[.int .i64 a',.int .i64 b']] w
   fun e w'=>e= .returned (.bool (a==a'&&b==b'))/\Below w.heap.size w w':=by
 go_enter Tryz.func255,Tryz.ntmps255
 go_wp2
 all_goals go_ret
 all_goals refine⟨z8 ?_,by exact bel_⟩
 all_goals simp_all
theorem z4Q (a b a' b':Int) (w:World):
  Calls Tryz.prog 256 #[.agg #[.int .i64 a,.int .i64 b],.agg #[.int .i64 a',.int .i64 b']] w
   fun e w'=>e= .returned (.bool (a==a'&&b==b'))/\Below w.heap.size w w':=by
 go_enter Tryz.func256,Tryz.ntmps256
 go_wp2
 all_goals go_ret
 all_goals refine⟨z8 ?_,by exact bel_⟩
 all_goals simp_all
theorem z2Y (a b:Int) (w:World):
  CB_ 255 #[.agg #[.int .i64 a,.int .i64 b],.agg #[.int .i64 a,.int .i64 b]] w (.bool true):=
 (z5l a b a b w).mono fun e w' ⟨he,hw⟩=>⟨he.trans (by simp),hw⟩
theorem z3N (a b:Int) (w:World):
  CB_ 256 #[.agg #[.int .i64 a,.int .i64 b],.agg #[.int .i64 a,.int .i64 b]] w (.bool true):=
 (z4Q a b a b w).mono fun e w' ⟨he,hw⟩=>⟨he.trans (by simp),hw⟩
theorem z2J (v u:Value) (l:List (Int×Int)) (w:World) (hv:RP w v l) (hu:RP w u l):
  CB_ 228 #[v,u] w (.bool true):=by
 obtain⟨A,c,rfl,hc,hm,hcell⟩:=hv.form;obtain⟨A',c',rfl,Nn,ce,Hs⟩:=hu.form;unfold maxLen at hm ce;clear hv hu
 go_enter Tryz.func228,Tryz.ntmps228
 go_wp2
 go_loopw [5] (fun i wr=>∃k:Nat,k<=l.length/\i= .int .i64 k/\Below w.heap.size w wr) (fun i _=>l.length -(intOf i).toNat)
 case atStart=>exact⟨0,aab _,rfl,aaj _ _⟩
 case round=>
  obtain⟨k,hk,rfl,Hb⟩:=hrel;have gj:=Hb.size
  by_cases Hd:k<l.length
  ·obtain⟨b,off,rfl,hb,Ho⟩:=hcell o_
   obtain⟨k0,k1⟩:=Ho k Hd;have q0:=(Hb.cell (p:=⟨b,off+k*2,none⟩) hb).trans k0;have q1:=(Hb.cell (p:=⟨b,off+k*2+1,none⟩) hb).trans k1;obtain⟨b',off',rfl,gw,Gw⟩:=Hs o_;obtain⟨j0,j1⟩:=Gw k Hd;have p0:=(Hb.cell (p:=⟨b',off'+k*2,none⟩) gw).trans j0;have p1:=(Hb.cell (p:=⟨b',off'+k*2+1,none⟩) gw).trans j1;have FT:(0:Int)<=(k:Int):=o_
   have cf:(k:Int)<(l.length:Int):=o_
   clear k0 k1 Ho hcell j0 j1 Gw Hs;go_wp2
   go_still_tail 8,k_
   go_wp2_with fail
   refine(z2Y _ _ _).mono ?_
   rintro e w2 ⟨rfl,He⟩;have gn:Below w.heap.size w w2:=Hb.trans ((show Below wr.heap.size wr w2 from⟨He.os,He.tape,He.output,He.size,He.block⟩).mono gj);clear He;go_wp2;go_roundw
   case rel=>exact⟨k+1,by omega,by go_num,gn⟩
   case measure=>simp[intOf];omega
  ·go_wp2
   go_ret
   exact⟨rfl,Hb⟩
theorem z2z (v u:Value) (l:List (Int×Int)) (w:World) (hv:RP w v l) (hu:RP w u l):
  CB_ 229 #[v,u] w (.bool true):=by
 obtain⟨A,c,rfl,hc,hm,hcell⟩:=hv.form;obtain⟨A',c',rfl,Nn,ce,Hs⟩:=hu.form;unfold maxLen at hm ce;clear hv hu
 go_enter Tryz.func229,Tryz.ntmps229
 go_wp2
 go_loopw [5] (fun i wr=>∃k:Nat,k<=l.length/\i= .int .i64 k/\Below w.heap.size w wr) (fun i _=>l.length -(intOf i).toNat)
 case atStart=>exact⟨0,aab _,rfl,aaj _ _⟩
 case round=>
  obtain⟨k,hk,rfl,Hb⟩:=hrel;have gj:=Hb.size
  by_cases Hd:k<l.length
  ·obtain⟨b,off,rfl,hb,Ho⟩:=hcell o_
   obtain⟨k0,k1⟩:=Ho k Hd;have q0:=(Hb.cell (p:=⟨b,off+k*2,none⟩) hb).trans k0;have q1:=(Hb.cell (p:=⟨b,off+k*2+1,none⟩) hb).trans k1;obtain⟨b',off',rfl,gw,Gw⟩:=Hs o_;obtain⟨j0,j1⟩:=Gw k Hd;have p0:=(Hb.cell (p:=⟨b',off'+k*2,none⟩) gw).trans j0;have p1:=(Hb.cell (p:=⟨b',off'+k*2+1,none⟩) gw).trans j1;have FT:(0:Int)<=(k:Int):=o_
   have cf:(k:Int)<(l.length:Int):=o_
   clear k0 k1 Ho hcell j0 j1 Gw Hs;go_wp2
   go_still_tail 8,k_
   go_wp2_with fail
   refine(z3N _ _ _).mono ?_
   rintro e w2 ⟨rfl,He⟩;have gn:Below w.heap.size w w2:=Hb.trans ((show Below wr.heap.size wr w2 from⟨He.os,He.tape,He.output,He.size,He.block⟩).mono gj);clear He;go_wp2;go_roundw
   case rel=>exact⟨k+1,by omega,by go_num,gn⟩
   case measure=>simp[intOf];omega
  ·go_wp2
   go_ret
   exact⟨rfl,Hb⟩
theorem yS (n lo hi:Int) (w:World):
  Calls Tryz.prog 78 #[.int .i64 n,.int .i64 lo,.int .i64 hi] w fun e w'=>e= .returned (.bool (inB n lo hi))/\w=w':=by
 go_enter Tryz.func78,Tryz.ntmps78
 go_wp2
 all_goals go_ret
 all_goals refine⟨z8 ?_,rfl⟩
 all_goals first|(simp[inB, *];done)|(simp[inB, *];omega)
theorem qa (n lo hi:Int) (w:World):
  Calls Tryz.prog 138 #[.int .i64 n,.int .i64 lo,.int .i64 hi] w fun e w'=>e= .returned (.bool (inB n lo hi))/\w=w':=by
 go_enter Tryz.func138,Tryz.ntmps138
 go_wp2
 all_goals go_ret
 all_goals refine⟨z8 ?_,rfl⟩
 all_goals first|(simp[inB, *];done)|(simp[inB, *];omega)
attribute [local go_sem ↓] zv zu qb qf
def zh (x y:Int):Bool:=inB x 0 20&&inB y 0 20
theorem zx {x y:Int} (h:zh x y=true):0<=x/\x<=20/\0<=y/\y<=20:=by
 simp[zh,inB] at h;omega
def zU (ax ay bx by' cx cy:Int):Int:=(bx -ax)*(cy -ay) -(by' -ay)*(cx -ax)
def yI (ax ay bx by' cx cy:Int):Bool:=
 zh ax ay&&zh bx by'&&zh cx cy&& !(prB ax ay bx by')&& !(prB bx by' cx cy)&& !(prB ax ay cx cy)&&(zU ax ay bx by' cx cy==0)&&inB cx (mn2 ax bx) (mx2 ax bx)&&inB cy (mn2 ay by') (mx2 ay by')
theorem ku {u v:Int} (h1: -20<=u) (h2:u<=20) (h3: -20<=v) (h4:v<=20): -400<=u*v/\u*v<=400:=by
 have h:(u*v).natAbs <=20*20:=by
  rw[Int.natAbs_mul];exact Nat.mul_le_mul o_ o_
 omega
theorem ZO {ax ay bx by' cx cy:Int} (ha:zh ax ay=true) (hb:zh bx by'=true) (hc:zh cx cy=true): -800<=zU ax ay bx by' cx cy/\zU ax ay bx by' cx cy<=800:=by
 have h1:=zx ha;have h2:=zx hb;have h3:=zx hc;have m1:=ku (u:=bx -ax) (v:=cy -ay) o_ o_ o_ o_;have m2:=ku (u:=by' -ay) (v:=cx -ax) o_ o_ o_ o_;unfold zU;omega
theorem qN (x y:Int) (w:World):
  CB_ 195 #[.agg #[.int .i64 x,.int .i64 y]] w (.bool (zh x y)):=by
 go_enter Tryz.func195,Tryz.ntmps195
 go_wp2_with (go_at_call 138;refine(qa _ _ _ _).mono ?_;rintro e w' ⟨rfl,rfl⟩)
 all_goals go_ret
 all_goals refine⟨z8 ?_,by exact bel_⟩
 all_goals simp_all[zh]
theorem JE (x y:Int) (w:World):
  CB_ 211 #[.agg #[.int .i64 x,.int .i64 y]] w (.bool (zh x y)):=by
 go_enter Tryz.func211,Tryz.ntmps211
 go_wp2_with (go_at_call 78;refine(yS _ _ _ _).mono ?_;rintro e w' ⟨rfl,rfl⟩)
 all_goals go_ret
 all_goals refine⟨z8 ?_,by exact bel_⟩
 all_goals simp_all[zh]
def zW (l:List (Int×Int)):Bool:=l.all fun p=>zh p.1 p.2
theorem Qg (v:Value) (l:List (Int×Int)) (w:World) (h:RP w v l):
  CB_ 154 #[v] w (.bool (zW l)):=by
 obtain⟨A,c,rfl,hc,hm,hcell⟩:=h.form;unfold maxLen at hm;clear h
 go_enter Tryz.func154,Tryz.ntmps154
 go_wp2
 go_loopw [7] (fun i wr=>∃k:Nat,k<=l.length/\i= .int .i64 k/\Hid (zW (l.take k)=true)/\Below w.heap.size w wr) (fun i _=>l.length -(intOf i).toNat)
 case atStart=>exact⟨0,aab _,rfl,h_ (by simp[zW]),aaj _ _⟩
 case round=>
  obtain⟨k,hk,rfl,HT,Hb⟩:=hrel;have gj:=Hb.size
  by_cases Hd:k<l.length
  ·obtain⟨b,off,rfl,hb,Ho⟩:=hcell o_
   obtain⟨k0,k1⟩:=Ho k Hd;have q0:=(Hb.cell (p:=⟨b,off+k*2,none⟩) hb).trans k0;have q1:=(Hb.cell (p:=⟨b,off+k*2+1,none⟩) hb).trans k1;clear k0 k1 Ho hcell
   cases fv:zh l[k].1 l[k].2
   ·have be:=h_ fv
    have HF:Hid (zW l=false):=h_ (by
     unfold zW;rw[List.all_eq_false];exact⟨l[k],abh Hd,by rw[fv];simp⟩)
    clear fv
    go_wp2_with fail
    refine(JE _ _ _).mono ?_
    rintro e w1 ⟨rfl,h9⟩;rw[be.out];go_wp2;go_ret
    exact⟨z8 HF.out.symm,by exact bel_⟩
   ·have be:=h_ fv
    have um:Hid (zW (l.take (k+1))=true):=h_ (by
     unfold zW;rw[aax Hd,List.all_append];have:=HT.out;unfold zW at this;rw[this];simp[fv])
    clear fv
    go_wp2_with fail
    refine(JE _ _ _).mono ?_
    rintro e w1 ⟨rfl,h9⟩;rw[be.out];go_wp2;go_roundw
    case rel=>exact⟨k+1,by omega,by go_num,um,by exact bel_⟩
    case measure=>simp[intOf];omega
  ·have Hw:l.length<=k:=o_
   have h:=HT.out;rw[aaL Hw] at h;have HF:=h_ h;clear h hcell;go_wp2;go_ret
   exact⟨z8 HF.out.symm,Hb⟩
theorem kc (v:Value) (ax ay bx by' cx cy:Int) (w:World) (h:RP w v [(ax,ay),(bx,by'),(cx,cy)]):
  CB_ 154 #[v] w (.bool (zh ax ay&&zh bx by'&&zh cx cy)):=
 (Qg v _ w h).mono fun e w' ⟨he,hw⟩=>⟨he.trans (z8 (by simp[zW,Bool.and_assoc])),hw⟩
theorem Qw (ax ay bx by' cx cy:Int) (w:World) (ha:zh ax ay=true) (hb:zh bx by'=true) (hc:zh cx cy=true):
  Calls Tryz.prog 243 #[.agg #[.int .i64 ax,.int .i64 ay],.agg #[.int .i64 bx,.int .i64 by'],.agg #[.int .i64 cx,.int .i64 cy]] w
   fun e w'=>e= .returned (.int .i64 (zU ax ay bx by' cx cy))/\Below w.heap.size w w':=by
 have h1:=zx ha;have h2:=zx hb;have h3:=zx hc;have m1:=ku (u:=bx -ax) (v:=cy -ay) o_ o_ o_ o_;have m2:=ku (u:=by' -ay) (v:=cx -ax) o_ o_ o_ o_;clear ha hb hc
 go_enter Tryz.func243,Tryz.ntmps243
 go_wp2;go_ret
 exact⟨rfl,by exact bel_⟩
theorem QF (ax ay bx by' cx cy:Int) (w:World) (ha:zh ax ay=true) (hb:zh bx by'=true) (hc:zh cx cy=true):
  Calls Tryz.prog 214 #[.agg #[.int .i64 ax,.int .i64 ay],.agg #[.int .i64 bx,.int .i64 by'],.agg #[.int .i64 cx,.int .i64 cy]] w
   fun e w'=>e= .returned (.int .i64 (zU ax ay bx by' cx cy))/\Below w.heap.size w w':=by
 have h1:=zx ha;have h2:=zx hb;have h3:=zx hc;have m1:=ku (u:=bx -ax) (v:=cy -ay) o_ o_ o_ o_;have m2:=ku (u:=by' -ay) (v:=cx -ax) o_ o_ o_ o_;have HN:Hid ((zh ax ay&&zh bx by'&&zh cx cy)=true):=h_ (by rw[ha,hb,hc];rfl);clear ha hb hc
 go_enter Tryz.func214,Tryz.ntmps214
 go_wp2_with fail
 refine(kc _ ax ay bx by' cx cy _ (jk (by simp) rfl rfl rfl (by simp[maxLen]))).mono ?_
 rintro e w1 ⟨rfl,h9⟩;(have Gb:=bcC h9)
 rw[HN.out];go_wp2;go_ret
 exact⟨rfl,by exact bel_⟩
abbrev Pr:=Int×Int
def jA (p:Pr):Bool:=zh p.1 p.2
def zV (a b c:Pr):Int:=zU a.1 a.2 b.1 b.2 c.1 c.2
def jE (a b c:Pr):Bool:=yI a.1 a.2 b.1 b.2 c.1 c.2
def qz (a b:Pr):Bool:=prB a.1 a.2 b.1 b.2
theorem yw {a b:Pr}:qz a b=true↔a=b:=kh
def ndI (ns:List Pr) (i:Int):Pr:=ns.getD i.toNat (0,0)
theorem qd (ns:List Pr) (k:Nat) (h:k<ns.length):ndI ns k=ns[k]:=by
 simp[ndI,List.getD,h]
def zp (ns:List Pr) (l:Pr):Bool:=
 decide (0<=l.1)&&decide (l.1<l.2)&&decide (l.2<ns.length)&&jA (ndI ns l.1)&&jA (ndI ns l.2)&& !(qz (ndI ns l.1) (ndI ns l.2))
theorem q9 {ns:List Pr} {l:Pr}:zp ns l=true↔0<=l.1/\l.1<l.2/\l.2<ns.length/\jA (ndI ns l.1)=true/\jA (ndI ns l.2)=true/\qz (ndI ns l.1) (ndI ns l.2)=false:=by
 simp[zp,and_assoc]
def jI (a b c d:Pr):Bool:=
 (qz a c&&qz b d||qz a d&&qz b c)||(jE a b c||jE a b d||jE c d a||jE c d b)||
  (decide (zV a b c*zV a b d<0)&&decide (zV c d a*zV c d b<0))
def qW (ns:List Pr) (l m:Pr):Bool:=zp ns l&&zp ns m&&jI (ndI ns l.1) (ndI ns l.2) (ndI ns m.1) (ndI ns m.2)
def onB (ns:List Pr) (l n:Pr):Bool:=zp ns l&&(qz n (ndI ns l.1)||qz n (ndI ns l.2)||jE (ndI ns l.1) (ndI ns l.2) n)
theorem xt (a b:Pr):qz a b=qz b a:=by
 have h:∀a b:Pr,qz a b=true->qz b a=true:=fun a b h=>yw.2 (yw.1 h).symm
 cases h1:qz a b
 ·cases h2:qz b a
  ·rfl
  ·rw[h b a h2] at h1;cases h1
 ·rw[h a b h1]
theorem xE (a b c d:Pr):jI a b c d=jI c d a b:=by
 unfold jI;rw[xt c a,xt d b,xt c b,xt d a]
 cases qz a c<;>cases qz b d<;>cases qz a d<;>cases qz b c<;>cases jE a b c<;>cases jE a b d<;>cases jE c d a<;>cases jE c d b<;>simp[Bool.and_comm]
theorem Q8 (ns:List Pr) (l m:Pr):qW ns l m=qW ns m l:=by
 unfold qW;rw[xE,Bool.and_comm (zp ns l)]
theorem z52 (a b:Pr):zV a b a=0:=by simp[zV,zU]
theorem VD (a b:Pr):zV a b b=0:=by
 unfold zV zU;rw[Int.mul_comm];omega
theorem vH (x y:Int):Int.sign x*Int.sign y<0↔x*y<0:=by
 rw[<-Int.sign_mul,Int.sign_neg_iff]
def Dis (ns:List Pr) (i:Nat):Prop:=∀a b:Nat,a<b->b<i->qz (ndI ns a) (ndI ns b)=false
def CrOk (ns ls:List Pr) (l:Pr) (i:Nat):Prop:=∀j:Nat,j<i->qW ns l (ndI ls j)=false
def OnOk (ns:List Pr) (l:Pr) (i:Nat):Prop:=∀j:Nat,j<i->(j:Int)≠l.1->(j:Int)≠l.2->onB ns l (ndI ns j)=false
def LdOk (ns ls:List Pr) (k:Nat):Prop:=zp ns (ndI ls k)=true/\CrOk ns ls (ndI ls k) k/\OnOk ns (ndI ls k) ns.length
def zL (ns ls:List Pr):Prop:=
 1<=ns.length/\ns.length<=12/\ls.length<=20/\zW ns=true/\Dis ns ns.length/\∀k:Nat,k<ls.length->LdOk ns ls k
noncomputable def winB (ns ls:List Pr):Bool:= @decide (zL ns ls) (Classical.propDecidable _)
theorem zD {ns ls:List Pr}:winB ns ls=true↔zL ns ls:=by simp[winB]
theorem jQ {ns ls:List Pr}:winB ns ls=false↔¬zL ns ls:=by simp[winB]
theorem z4T {ns:List Pr} (h:zW ns=true):∀p∈ns,jA p=true:=by
 unfold zW at h;rw[aaM] at h;exact h
theorem y7 {ns:List Pr} (h:zW ns=true) (k:Nat) (hk:k<ns.length):jA (ndI ns k)=true:=by
 rw[qd ns k hk];exact z4T h _ (abh hk)
theorem Dis.zero (ns:List Pr):Dis ns 0:=fun a b h hb=>absurd hb o_
theorem Dis.succ {ns:List Pr} {i:Nat} (h:Dis ns i) (hi:∀a:Nat,a<i->qz (ndI ns a) (ndI ns i)=false):Dis ns (i+1):=by
 intro a b uo hb
 rcases Nat.lt_succ_iff_lt_or_eq.1 hb with h1|h1
 ·exact h a b uo h1
 ·subst h1;exact hi a uo
theorem CrOk.zero (ns ls:List Pr) (l:Pr):CrOk ns ls l 0:=fun j hj=>absurd hj o_
theorem CrOk.succ {ns ls:List Pr} {l:Pr} {i:Nat} (h:CrOk ns ls l i) (hi:qW ns l (ndI ls i)=false):CrOk ns ls l (i+1):=by
 intro j hj
 rcases Nat.lt_succ_iff_lt_or_eq.1 hj with h1|h1
 ·exact h j h1
 ·subst h1;exact hi
theorem OnOk.zero (ns:List Pr) (l:Pr):OnOk ns l 0:=fun j hj=>absurd hj o_
theorem OnOk.succ {ns:List Pr} {l:Pr} {i:Nat} (h:OnOk ns l i) (hi:(i:Int)≠l.1->(i:Int)≠l.2->onB ns l (ndI ns i)=false):OnOk ns l (i+1):=by
 intro j hj
 rcases Nat.lt_succ_iff_lt_or_eq.1 hj with h1|h1
 ·exact h j h1
 ·subst h1;exact hi
theorem RP.formI {w:World} {v:Value} {l:List (Int×Int)} (h:RP w v l):∃A c,v= .slice A l.length c/\l.length<=c/\l.length<=maxLen/\
  (0<l.length->∃b off,A=some ⟨b,off,none⟩/\b<w.heap.size/\∀k:Nat,k<l.length->w.cell? ⟨b,off+k*2,none⟩=some (.int .i64 (ndI l k).1)/\w.cell? ⟨b,off+k*2+1,none⟩=some (.int .i64 (ndI l k).2)):=by
 obtain⟨A,c,h1,h2,h3,h4⟩:=h.form;refine⟨A,c,h1,h2,h3,fun hn=>?_⟩
 obtain⟨b,off,e1,e2,e3⟩:=h4 hn;exact⟨b,off,e1,e2,fun k hk=>by rw[qd l k hk];exact e3 k hk⟩
attribute [local go_sem ↓] zv zu qb qf
theorem ZD {ax ay bx by' cx cy:Int} (h:¬(zh ax ay=true/\zh bx by'=true/\zh cx cy=true)):yI ax ay bx by' cx cy=false:=by
 unfold yI
 cases h1:zh ax ay<;>cases h2:zh bx by'<;>cases h3:zh cx cy<;>simp_all
theorem xw (ax ay bx by' cx cy:Int) (w:World):
  Calls Tryz.prog 240 #[.agg #[.int .i64 ax,.int .i64 ay],.agg #[.int .i64 bx,.int .i64 by'],.agg #[.int .i64 cx,.int .i64 cy]] w
   fun e w'=>e= .returned (.bool (yI ax ay bx by' cx cy))/\Below w.heap.size w w':=by
 cases h1:zh ax ay
 ·have HR:=h_ (ZD (ax:=ax) (ay:=ay) (bx:=bx) (by':=by') (cx:=cx) (cy:=cy) (by rw[h1];simp))
  go_enter Tryz.func240,Tryz.ntmps240
  go_wp2_with fail
  refine(qN _ _ _).mono ?_
  rintro e w1 ⟨rfl,h9⟩;rw[h1];go_wp2;go_ret
  exact⟨z8 HR.out.symm,by exact bel_⟩
 cases h2:zh bx by'
 ·have HR:=h_ (ZD (ax:=ax) (ay:=ay) (bx:=bx) (by':=by') (cx:=cx) (cy:=cy) (by rw[h2];simp))
  go_enter Tryz.func240,Tryz.ntmps240
  go_wp2_with fail
  refine(qN _ _ _).mono ?_
  rintro e w1 ⟨rfl,h9⟩;(have Gb:=bcC h9);have H8:=h9.size;(try simp at H8)
  rw[h1]
  go_wp2_with fail
  refine(qN _ _ _).mono ?_
  rintro e w2 ⟨rfl,He⟩;rw[h2];go_wp2;go_ret
  exact⟨z8 HR.out.symm,by exact bel_⟩
 cases h3:zh cx cy
 ·have HR:=h_ (ZD (ax:=ax) (ay:=ay) (bx:=bx) (by':=by') (cx:=cx) (cy:=cy) (by rw[h3];simp))
  go_enter Tryz.func240,Tryz.ntmps240
  go_wp2_with fail
  refine(qN _ _ _).mono ?_
  rintro e w1 ⟨rfl,h9⟩;(have Gb:=bcC h9);have H8:=h9.size;(try simp at H8);(try have fZ:=p2_ w w1)
  rw[h1]
  go_wp2_with fail
  refine(qN _ _ _).mono ?_
  rintro e w2 ⟨rfl,He⟩;(have fa:=bcC He);have Gd:=He.size;(try simp at Gd);(try have gX:=p0_ w w2);(try have gY:=p1_ w w2);(try have fm:=p2_ w w2)
  rw[h2]
  go_wp2_with fail
  refine(qN _ _ _).mono ?_
  rintro e w3 ⟨rfl,Hf⟩;rw[h3];go_wp2;go_ret
  exact⟨z8 HR.out.symm,by exact bel_⟩
 ·have HR:Hid (yI ax ay bx by' cx cy=(!(prB ax ay bx by')&& !(prB bx by' cx cy)&& !(prB ax ay cx cy)&&(zU ax ay bx by' cx cy==0)&&inB cx (mn2 ax bx) (mx2 ax bx)&&inB cy (mn2 ay by') (mx2 ay by'))):=h_ (by unfold yI;rw[h1,h2,h3];rfl)
  go_enter Tryz.func240,Tryz.ntmps240
  go_wp2_with fail
  refine(qN _ _ _).mono ?_
  rintro e w1 ⟨rfl,h9⟩;(have Gb:=bcC h9);have H8:=h9.size;(try simp at H8);(try have gR:=p0_ w w1);(try have Gk:=p1_ w w1);(try have fZ:=p2_ w w1)
  rw[h1]
  go_wp2_with fail
  refine(qN _ _ _).mono ?_
  rintro e w2 ⟨rfl,He⟩;(have fa:=bcC He);have Gd:=He.size;(try simp at Gd);(try have gX:=p0_ w w2);(try have gY:=p1_ w w2);(try have fm:=p2_ w w2)
  rw[h2]
  go_wp2_with fail
  refine(qN _ _ _).mono ?_
  rintro e w3 ⟨rfl,Hf⟩;(have fU:=bcC Hf);have fA:=Hf.size;(try simp at fA);(try have cP:=p0_ w w3);(try have cQ:=p1_ w w3);(try have No:=p2_ w w3)
  rw[h3]
  go_wp2_with (first|(go_at_call 243;refine(Qw _ _ _ _ _ _ _ h1 h2 h3).mono ?_;rintro e w4 ⟨rfl,Hv⟩;(have Cp:=bcC Hv))|(go_at_call 138;refine(qa _ _ _ _).mono ?_;rintro e w' ⟨rfl,rfl⟩))
  all_goals go_ret
  all_goals refine⟨z8 ?_,by exact bel_⟩
  all_goals rw[HR.out]
  all_goals simp_all
theorem xm (ax ay bx by' cx cy:Int) (w:World):
  Calls Tryz.prog 213 #[.agg #[.int .i64 ax,.int .i64 ay],.agg #[.int .i64 bx,.int .i64 by'],.agg #[.int .i64 cx,.int .i64 cy]] w
   fun e w'=>e= .returned (.bool (yI ax ay bx by' cx cy))/\Below w.heap.size w w':=by
 by_cases hv:zh ax ay=true/\zh bx by'=true/\zh cx cy=true
 ·obtain⟨h1,h2,h3⟩:=hv
  have HN:Hid ((zh ax ay&&zh bx by'&&zh cx cy)=true):=h_ (by rw[h1,h2,h3];rfl);have HR:Hid (yI ax ay bx by' cx cy=(!(prB ax ay bx by')&& !(prB bx by' cx cy)&& !(prB ax ay cx cy)&&(zU ax ay bx by' cx cy==0)&&inB cx (mn2 ax bx) (mx2 ax bx)&&inB cy (mn2 ay by') (mx2 ay by'))):=h_ (by unfold yI;rw[h1,h2,h3];rfl)
  go_enter Tryz.func213,Tryz.ntmps213
  go_wp2_with fail
  refine(kc _ ax ay bx by' cx cy _ (jk (by simp) rfl rfl rfl (by simp[maxLen]))).mono ?_
  rintro e w1 ⟨rfl,h9⟩;(have Gb:=bcC h9);have H8:=h9.size;(try simp at H8);(try have gR:=p0_ w w1);(try have Gk:=p1_ w w1);(try have fZ:=p2_ w w1)
  rw[HN.out]
  go_wp2_with (first|(go_at_call 214;refine(QF _ _ _ _ _ _ _ h1 h2 h3).mono ?_;rintro e w4 ⟨rfl,Hv⟩;(have Cp:=bcC Hv))|(go_at_call 78;refine(yS _ _ _ _).mono ?_;rintro e w' ⟨rfl,rfl⟩))
  all_goals go_ret
  all_goals refine⟨z8 ?_,by exact bel_⟩
  all_goals rw[HR.out]
  all_goals simp_all
 ·have HN:Hid ((zh ax ay&&zh bx by'&&zh cx cy)=false):=h_ (by
   cases h1:zh ax ay<;>cases h2:zh bx by'<;>cases h3:zh cx cy<;>simp_all)
  have HR:=h_ (ZD hv);clear hv
  go_enter Tryz.func213,Tryz.ntmps213
  go_wp2_with fail
  refine(kc _ ax ay bx by' cx cy _ (jk (by simp) rfl rfl rfl (by simp[maxLen]))).mono ?_
  rintro e w1 ⟨rfl,h9⟩;rw[HN.out];go_wp2;go_ret
  exact⟨z8 HR.out.symm,by exact bel_⟩
structure Grw (w:World) where
 wt:World
 below:Below w.heap.size w wt
instance (w:World):Nonempty (Grw w):=⟨⟨w,aaj _ _⟩⟩
theorem Grw.cells {w:World} (n:Grw w) (b o:Nat) (h:b<w.heap.size):n.wt.cell? ⟨b,o,none⟩=w.cell? ⟨b,o,none⟩:=n.below.cell (p:=⟨b,o,none⟩) h
theorem z7 {P:Program} {id:Nat} {Q:Exit->Act->World->Prop} {a:Act} {w:World} {l:List Oper} (hm:P.follows .mixedOrders =true) (hB:Region.lexB .any l.toArray=true)
  (h:(∀(n:Grw w) (b o:Nat),b<w.heap.size->n.wt.cell? ⟨b,o,none⟩=w.cell? ⟨b,o,none⟩)->wpQuiet P l.toArray (fun w'=>∃n:Grw w,w'=n.wt) (fun a'=>∀w',(∃n:Grw w,w'=n.wt)->Q .normal a' w') l a):
  (Code.region id l.toArray true).wp P Q a w:=
 wp_region_quiet (C:=fun w'=>∃n:Grw w,w'=n.wt) hm hB ⟨⟨w.drew,(aaj _ _).drew⟩,rfl⟩ (by simpa using h (fun n=>n.cells))
theorem zy {P:Program} {W:World} {n:Grw W} {f:Nat} {args:Array Value} {v:Value} (h:Calls P f args n.wt fun e w'=>e= .returned v/\Below n.wt.heap.size n.wt w'):
  Calls P f args n.wt fun e w''=>e= .returned v/\∃m:Grw W,w''=m.wt:=
 h.mono fun e w' ⟨he,hb⟩=>⟨he,⟨w',n.below.trans (hb.mono n.below.size)⟩,rfl⟩
theorem RS.grw {W:World} (n:Grw W) {size k:Nat} {v:Value} {xs:List Value} (h:RS W size v k xs):RS n.wt size v k xs:=RS.below h n.below
theorem zT {P:Program} {W:World} {n:Grw W} {f:Nat} {args:Array Value} {v:Value} (h:Calls P f args n.wt fun e w'=>e= .returned v/\n.wt=w'):
  Calls P f args n.wt fun e w''=>e= .returned v/\∃m:Grw W,w''=m.wt:=
 h.mono fun e w' ⟨he,hb⟩=>⟨he,n,hb.symm⟩
attribute [local go_sem ↓] zv zu qb qf
theorem z60 {w:World} {l:List (Int×Int)} {cs:Array Value} {t:TypeId} {g n c:Nat} (hg:g=w.heap.size) (Gu:cs.toList=l.flatMap prc) (hn:n=l.length) (hc:c=l.length) (hm:l.length<=maxLen):
  RP (w.alloc (.cells cs t)).drew (.slice (some ⟨g,0,none⟩) n c) l:=
 RP.below (jk hg Gu hn hc hm) ((aaj _ _).drew)
theorem Jy {ns:List Pr} {a b:Int} (h:¬(0<=a/\a<b/\b<ns.length)):zp ns (a,b)=false:=by
 cases hl:zp ns (a,b)
 ·rfl
 ·obtain⟨h1,h2,h3,_⟩:=q9.1 hl
  exact absurd ⟨h1,h2,h3⟩ h
theorem z4o {ns:List Pr} {p q:Nat} (h1:p<q) (h2:q<ns.length):zp ns (p,q)=(zh (ndI ns p).1 (ndI ns p).2&&zh (ndI ns q).1 (ndI ns q).2&& !(prB (ndI ns p).1 (ndI ns p).2 (ndI ns q).1 (ndI ns q).2)):=by
 unfold zp;have e1:decide ((0:Int)<=(p:Int))=true:=aaR o_;have e2:decide ((p:Int)<(q:Int))=true:=aaR o_;have e3:decide ((q:Int)<(ns.length:Int))=true:=aaR o_;rw[e1,e2,e3];simp[jA,qz]
theorem z53 (v:Value) (ax ay bx by':Int) (w:World) (h:RP w v [(ax,ay),(bx,by')]):
  CB_ 154 #[v] w (.bool (zh ax ay&&zh bx by')):=
 (Qg v _ w h).mono fun e w' ⟨he,hw⟩=>⟨he.trans (z8 (by simp[zW])),hw⟩
theorem zH (x y:Int) (b:Bool) (w:World) (h:zh x y=b):
  CB_ 195 #[.agg #[.int .i64 x,.int .i64 y]] w (.bool b):=by
 subst h;exact qN x y w
theorem ZB (w:World) (gb off len c p q:Nat) (px py qx qy:Int) (hx:zh px py=true) (hy:zh qx qy=true) (g1:p<q) (g2:q<len) (hm:len<=2^63 -1) (FG:gb<w.heap.size)
  (k0:w.cell? ⟨gb,off+p*2,none⟩=some (.int .i64 px)) (k1:w.cell? ⟨gb,off+p*2+1,none⟩=some (.int .i64 py))
  (j0:w.cell? ⟨gb,off+q*2,none⟩=some (.int .i64 qx)) (j1:w.cell? ⟨gb,off+q*2+1,none⟩=some (.int .i64 qy)):
  CB_ 196 #[.slice (some ⟨gb,off,none⟩) len c,.agg #[.int .i64 p,.int .i64 q]] w (.bool (true&&true&& !(prB px py qx qy))):=by
 have g3:p<len:=o_
 have i1:inB (p:Int) 0 ((len:Int) -1)=true:=zd.2 o_;have i2:inB (q:Int) 0 ((len:Int) -1)=true:=zd.2 o_;have n1:gb<w.heap.size+1:=o_
 go_enter Tryz.func196,Tryz.ntmps196
 go_wp2_with (go_at_call 138;refine(qa _ _ _ _).mono ?_;rintro e w' ⟨rfl,rfl⟩;first|rw[i1]|rw[i2])
 (refine z7 k_ k_ (fun hG=>?_))
 repeat (go_big_quiet_step (first|(go_at_call 195;exact zy (zH _ _ _ _ hx))|(go_at_call 195;exact zy (zH _ _ _ _ hy))))
 (refine wpQuiet_nil ?_);(clear hG);(rintro w1 ⟨⟨_,h9⟩,rfl⟩);(try dsimp only)
 go_wp2;go_ret
 exact⟨z8 (by simp),by exact bel_⟩
theorem Z8 (w:World) (gb off len c p q:Nat) (px py qx qy:Int) (hx:zh px py=true) (hy:zh qx qy=false) (g1:p<q) (g2:q<len) (hm:len<=2^63 -1) (FG:gb<w.heap.size)
  (k0:w.cell? ⟨gb,off+p*2,none⟩=some (.int .i64 px)) (k1:w.cell? ⟨gb,off+p*2+1,none⟩=some (.int .i64 py))
  (j0:w.cell? ⟨gb,off+q*2,none⟩=some (.int .i64 qx)) (j1:w.cell? ⟨gb,off+q*2+1,none⟩=some (.int .i64 qy)):
  CB_ 196 #[.slice (some ⟨gb,off,none⟩) len c,.agg #[.int .i64 p,.int .i64 q]] w (.bool (true&&false&& !(prB px py qx qy))):=by
 have g3:p<len:=o_
 have i1:inB (p:Int) 0 ((len:Int) -1)=true:=zd.2 o_;have i2:inB (q:Int) 0 ((len:Int) -1)=true:=zd.2 o_;have n1:gb<w.heap.size+1:=o_
 go_enter Tryz.func196,Tryz.ntmps196
 go_wp2_with (go_at_call 138;refine(qa _ _ _ _).mono ?_;rintro e w' ⟨rfl,rfl⟩;first|rw[i1]|rw[i2])
 (refine z7 k_ k_ (fun hG=>?_))
 repeat (go_big_quiet_step (first|(go_at_call 195;exact zy (zH _ _ _ _ hx))|(go_at_call 195;exact zy (zH _ _ _ _ hy))))
 (refine wpQuiet_nil ?_);(clear hG);(rintro w1 ⟨⟨_,h9⟩,rfl⟩);(try dsimp only)
 go_wp2;go_ret
 exact⟨z8 (by simp),by exact bel_⟩
theorem Zh (w:World) (gb off len c p q:Nat) (px py qx qy:Int) (hx:zh px py=false) (hy:zh qx qy=true) (g1:p<q) (g2:q<len) (hm:len<=2^63 -1) (FG:gb<w.heap.size)
  (k0:w.cell? ⟨gb,off+p*2,none⟩=some (.int .i64 px)) (k1:w.cell? ⟨gb,off+p*2+1,none⟩=some (.int .i64 py))
  (j0:w.cell? ⟨gb,off+q*2,none⟩=some (.int .i64 qx)) (j1:w.cell? ⟨gb,off+q*2+1,none⟩=some (.int .i64 qy)):
  CB_ 196 #[.slice (some ⟨gb,off,none⟩) len c,.agg #[.int .i64 p,.int .i64 q]] w (.bool (false&&true&& !(prB px py qx qy))):=by
 have g3:p<len:=o_
 have i1:inB (p:Int) 0 ((len:Int) -1)=true:=zd.2 o_;have i2:inB (q:Int) 0 ((len:Int) -1)=true:=zd.2 o_;have n1:gb<w.heap.size+1:=o_
 go_enter Tryz.func196,Tryz.ntmps196
 go_wp2_with (go_at_call 138;refine(qa _ _ _ _).mono ?_;rintro e w' ⟨rfl,rfl⟩;first|rw[i1]|rw[i2])
 (refine z7 k_ k_ (fun hG=>?_))
 repeat (go_big_quiet_step (first|(go_at_call 195;exact zy (zH _ _ _ _ hx))|(go_at_call 195;exact zy (zH _ _ _ _ hy))))
 (refine wpQuiet_nil ?_);(clear hG);(rintro w1 ⟨⟨_,h9⟩,rfl⟩);(try dsimp only)
 go_wp2;go_ret
 exact⟨z8 (by simp),by exact bel_⟩
theorem QL (w:World) (gb off len c p q:Nat) (px py qx qy:Int) (hx:zh px py=false) (hy:zh qx qy=false) (g1:p<q) (g2:q<len) (hm:len<=2^63 -1) (FG:gb<w.heap.size)
  (k0:w.cell? ⟨gb,off+p*2,none⟩=some (.int .i64 px)) (k1:w.cell? ⟨gb,off+p*2+1,none⟩=some (.int .i64 py))
  (j0:w.cell? ⟨gb,off+q*2,none⟩=some (.int .i64 qx)) (j1:w.cell? ⟨gb,off+q*2+1,none⟩=some (.int .i64 qy)):
  CB_ 196 #[.slice (some ⟨gb,off,none⟩) len c,.agg #[.int .i64 p,.int .i64 q]] w (.bool (false&&false&& !(prB px py qx qy))):=by
 have g3:p<len:=o_
 have i1:inB (p:Int) 0 ((len:Int) -1)=true:=zd.2 o_;have i2:inB (q:Int) 0 ((len:Int) -1)=true:=zd.2 o_;have n1:gb<w.heap.size+1:=o_
 go_enter Tryz.func196,Tryz.ntmps196
 go_wp2_with (go_at_call 138;refine(qa _ _ _ _).mono ?_;rintro e w' ⟨rfl,rfl⟩;first|rw[i1]|rw[i2])
 (refine z7 k_ k_ (fun hG=>?_))
 repeat (go_big_quiet_step (first|(go_at_call 195;exact zy (zH _ _ _ _ hx))|(go_at_call 195;exact zy (zH _ _ _ _ hy))))
 (refine wpQuiet_nil ?_);(clear hG);(rintro w1 ⟨⟨_,h9⟩,rfl⟩);(try dsimp only)
 go_wp2;go_ret
 exact⟨z8 (by simp),by exact bel_⟩
theorem jp (v:Value) (ns:List Pr) (a b:Int) (w:World) (h:RP w v ns):
  CB_ 196 #[v,.agg #[.int .i64 a,.int .i64 b]] w (.bool (zp ns (a,b))):=by
 obtain⟨A,c,rfl,hc,hm,hcell⟩:=h.formI;unfold maxLen at hm;clear h
 by_cases hv:0<=a/\a<b/\b<ns.length
 ·obtain⟨h1,h2,h3⟩:=hv
  obtain⟨p,rfl⟩:=Int.eq_ofNat_of_zero_le h1;obtain⟨q,rfl⟩:=Int.eq_ofNat_of_zero_le (show 0<=b by omega);have g1:p<q:=o_
  have g2:q<ns.length:=o_
  have g3:p<ns.length:=o_
  obtain⟨gb,off,rfl,FG,Ho⟩:=hcell o_;obtain⟨k0,k1⟩:=Ho p g3;obtain⟨j0,j1⟩:=Ho q g2;rw[z4o g1 g2]
  cases hx:zh (ndI ns p).1 (ndI ns p).2<;>cases hy:zh (ndI ns q).1 (ndI ns q).2
  ·exact QL w gb off _ c p q _ _ _ _ hx hy g1 g2 hm FG k0 k1 j0 j1
  ·exact Zh w gb off _ c p q _ _ _ _ hx hy g1 g2 hm FG k0 k1 j0 j1
  ·exact Z8 w gb off _ c p q _ _ _ _ hx hy g1 g2 hm FG k0 k1 j0 j1
  ·exact ZB w gb off _ c p q _ _ _ _ hx hy g1 g2 hm FG k0 k1 j0 j1
 ·have HR:=h_ (Jy hv)
  have HV:=h_ hv;clear hcell hv
  go_enter Tryz.func196,Tryz.ntmps196
  go_wp2_with (go_at_call 138;refine(qa _ _ _ _).mono ?_;rintro e w' ⟨rfl,rfl⟩)
  all_goals first|(go_ret;exact⟨z8 HR.out.symm,by exact bel_⟩)|(exfalso;refine HV.out ?_;simp_all[inB];omega)
theorem z9T (w:World) (gb off len c p q:Nat) (px py qx qy:Int) (hx:(zh px py&&zh qx qy)=true) (g1:p<q) (g2:q<len) (hm:len<=2^63 -1) (FG:gb<w.heap.size)
  (k0:w.cell? ⟨gb,off+p*2,none⟩=some (.int .i64 px)) (k1:w.cell? ⟨gb,off+p*2+1,none⟩=some (.int .i64 py))
  (j0:w.cell? ⟨gb,off+q*2,none⟩=some (.int .i64 qx)) (j1:w.cell? ⟨gb,off+q*2+1,none⟩=some (.int .i64 qy)):
  CB_ 156 #[.slice (some ⟨gb,off,none⟩) len c,.agg #[.int .i64 p,.int .i64 q]] w (.bool (!(prB px py qx qy))):=by
 have g3:p<len:=o_
 have g4:(0:Int)<=(p:Int):=o_
 have g5:(p:Int)<(q:Int):=o_
 have g6:(q:Int)<(len:Int):=o_
 have n2:gb<w.heap.size+1+1:=o_
 have n3:w.heap.size<w.heap.size+1+1:=o_
 go_enter Tryz.func156,Tryz.ntmps156
 go_wp2_with fail
 (go_region_held3 (fun w'=>w'.cell? ⟨w.heap.size,0,none⟩=some (.int .i64 p)/\w'.cell? ⟨w.heap.size,1,none⟩=some (.int .i64 q)/\w'.cell? ⟨gb,off+p*2,none⟩=some (.int .i64 px)/\w'.cell? ⟨gb,off+p*2+1,none⟩=some (.int .i64 py)/\w'.cell? ⟨gb,off+q*2,none⟩=some (.int .i64 qx)/\w'.cell? ⟨gb,off+q*2+1,none⟩=some (.int .i64 qy))
   (go_keep)
   (first|(go_at_call 154;refine(z53 _ px py qx qy _ (z60 (by simp) rfl rfl rfl (by simp[maxLen]))).mono ?_;rw[hx];rintro e w1 ⟨rfl,h9⟩;(have Gb:=bdC h9))))
 go_wp2;go_ret
 exact⟨z8 (by simp),by exact bel_⟩
theorem jn (v:Value) (ns:List Pr) (a b:Int) (w:World) (h:RP w v ns) (fv:zW ns=true):
  CB_ 156 #[v,.agg #[.int .i64 a,.int .i64 b]] w (.bool (zp ns (a,b))):=by
 obtain⟨A,c,rfl,hc,hm,hcell⟩:=h.formI;unfold maxLen at hm;clear h
 by_cases hv:0<=a/\a<b/\b<ns.length
 ·obtain⟨h1,h2,h3⟩:=hv
  obtain⟨p,rfl⟩:=Int.eq_ofNat_of_zero_le h1;obtain⟨q,rfl⟩:=Int.eq_ofNat_of_zero_le (show 0<=b by omega);have g1:p<q:=o_
  have g2:q<ns.length:=o_
  have g3:p<ns.length:=o_
  obtain⟨gb,off,rfl,FG,Ho⟩:=hcell o_;obtain⟨k0,k1⟩:=Ho p g3;obtain⟨j0,j1⟩:=Ho q g2;have hp:=y7 fv p g3;have hq:=y7 fv q g2;rw[z4o g1 g2];unfold jA at hp hq;rw[hp,hq];exact z9T w gb off _ c p q _ _ _ _ (by rw[hp,hq];rfl) g1 g2 hm FG k0 k1 j0 j1
 ·have HR:=h_ (Jy hv)
  clear hcell
  go_enter Tryz.func156,Tryz.ntmps156
  go_wp2_with fail
  by_cases c1:0<=a
  ·by_cases c2:a<b
   ·have c3:¬b<ns.length:=fun c3=>hv ⟨c1,c2,c3⟩
    clear hv
    go_quiet (fail)
    go_wp2;go_ret
    exact⟨z8 HR.out.symm,by exact bel_⟩
   ·clear hv
    go_quiet (fail)
    go_wp2;go_ret
    exact⟨z8 HR.out.symm,by exact bel_⟩
  ·clear hv
   go_quiet (fail)
   go_wp2;go_ret
   exact⟨z8 HR.out.symm,by exact bel_⟩
def okC (adj:Nat->Nat->Bool) (hd:List Int) (k:Nat) (x:Int):Bool:=(List.range k).all (fun i=> !(adj i k&&(hd.getD i 0==x)))
def JA (gv:List Int) (k:Nat) (x:Int):Bool:=decide (gv.getD k 0<0)||(gv.getD k 0==x)
def srch (adj:Nat->Nat->Bool) (gv:List Int) (n:Nat):Nat->List Int->Option (List Int)
 |0,hd=>some hd
 |r+1,hd=>(List.range n).findSome? (fun (x:Nat)=>if JA gv hd.length x&&okC adj hd hd.length x then srch adj gv n r (hd++[(x:Int)]) else none)
theorem z2e {adj:Nat->Nat->Bool} {hd:List Int} {k:Nat} {x:Int}:okC adj hd k x=true↔∀i,i<k->adj i k=true->hd.getD i 0≠x:=by
 unfold okC;rw[aaM]
 constructor
 ·intro h i hi ha hx
  have:=h i (List.mem_range.2 hi);rw[ha,hx] at this;simp at this
 ·intro h i hi
  have:=h i (List.mem_range.1 hi)
  cases ha:adj i k
  ·rfl
  ·have h2:=this ha
   simp only[aaS,Bool.not_eq_true']
   exact beq_eq_false_iff_ne.2 h2
theorem z0I {adj:Nat->Nat->Bool} {gv:List Int} {n:Nat}:∀(r:Nat) (hd L:List Int),srch adj gv n r hd=some L->(∀j,j<hd.length->0<=hd.getD j 0/\hd.getD j 0<n)->(∀j,j<hd.length->okC adj hd j (hd.getD j 0)=true)->
  L.length=hd.length+r/\(∀j,j<hd.length->L.getD j 0=hd.getD j 0)/\(∀j,j<L.length->0<=L.getD j 0/\L.getD j 0<n)/\(∀i j,i<j->j<L.length->adj i j=true->L.getD i 0≠L.getD j 0)
 |0,hd,L,h,hb,hp=>by
  simp only[srch,Option.some.injEq] at h
  subst h;exact⟨rfl,fun _ _=>rfl,hb,fun i j nU hj ha=>z2e.1 (hp j hj) i nU ha⟩
 |r+1,hd,L,h,hb,hp=>by
  rw[srch] at h;obtain⟨x,hx,hf⟩:=List.exists_of_findSome?_eq_some h;rw[aaN] at hx
  split at hf
  ·rename_i hc
   rw[aaH] at hc
   have bJ:∀j,j<hd.length->(hd++[(x:Int)]).getD j 0=hd.getD j 0:=by
    intro j hj;simp[List.getD,abd hj]
   have f8:(hd++[(x:Int)]).getD hd.length 0=x:=by simp[List.getD]
   have fv:∀j y,j<=hd.length->(okC adj (hd++[(x:Int)]) j y=true↔okC adj hd j y=true):=by
    intro j y hj;rw[z2e,z2e]
    constructor
    ·intro h i hi ha
     rw[<-bJ i o_];exact h i hi ha
    ·intro h i hi ha
     rw[bJ i o_];exact h i hi ha
   obtain⟨e1,e2,e3,e4⟩:=z0I r (hd++[(x:Int)]) L hf (fun j hj=>by
    rw[aaX,aa9] at hj
    by_cases FL:j<hd.length
    ·rw[bJ j FL];exact hb j FL
    ·have:j=hd.length:=o_
     subst this;rw[f8];omega) (fun j hj=>by
    rw[aaX,aa9] at hj;rw[fv j _ o_]
    by_cases FL:j<hd.length
    ·rw[bJ j FL];exact hp j FL
    ·have:j=hd.length:=o_
     subst this;rw[f8];exact hc.2)
   rw[aaX,aa9] at e1;refine⟨by omega,fun j hj=>?_,e3,e4⟩
   rw[e2 j (by simp;omega),bJ j hj]
  ·cases hf
theorem z7B {k:Nat} {x:Int} {F:Nat} (h:k<F):JA (List.replicate F (-1)) k x=true:=by
 unfold JA;have:(List.replicate F (-1:Int)).getD k 0= -1:=by simp[List.getD,h]
 rw[this];rfl
end Go.Proofs.YtnjcpljhmhdhkaaGreat
