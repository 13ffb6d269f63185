/- part 0 -/
import Derived.Test.YtnjcpljhmhdhkaaGreatProg
import Derived.WalkKit
import Derived.WalkSpells
import Derived.WalkLawsBesides
import Derived.Lib.Hide
import Derived.Deep.AppendLies
import Derived.Deep.Draws
set_option linter.unusedSimpArgs false
set_option linter.unusedVariables false
set_option linter.defProp false
namespace Go.Proofs.YtnjcpljhmhdhkaaGreat
open Go.RowKit
theorem o_ {P:Prop} (h:P:=by omega):P:=h
theorem k_ {P:Prop} (h:P:=by kernel_rfl):P:=h
theorem h_ {P:Prop} (h:P):Hid P:=Lib.hid h
theorem lp_:(forall (a:Act) (v:Value),a.put none v=a)/\(forall (a:Act) (t:Tmp) (v:Value),a.put (some t) v={a with tmps:=a.tmps.setIfInBounds t v})/\(forall (l:List Value) (i:Nat) (x:Value),l.toArray.setIfInBounds i x=(l.set i x).toArray)/\(forall (l:List Bool) (i:Nat) (x:Bool),l.toArray.setIfInBounds i x=(l.set i x).toArray)/\(forall (l:List Value) (x y:Value),(x::l).set 0 y=y::l)/\(forall (l:List Bool) (x y:Bool),(x::l).set 0 y=y::l)/\(forall (l:List Value) (i:Nat) (x y:Value),(x::l).set (i+1) y=x::l.set i y)/\(forall (l:List Bool) (i:Nat) (x y:Bool),(x::l).set (i+1) y=x::l.set i y):=by
 refine ⟨?_,?_,?_,?_,?_,?_,?_,?_⟩ <;> intros <;> simp[Act.put]
@[reducible] def z8_:Array Value:=#[.slice none 0 0,.slice none 0 0,.slice none 0 0,.slice none 0 0,.slice none 0 0,.slice none 0 0,.slice none 0 0,.int .i64 0]
@[reducible] def z5_:Array Value:=#[.slice none 0 0,.slice none 0 0,.slice none 0 0,.slice none 0 0,.slice none 0 0]
@[reducible] def CB_ (F:FuncId) (a:Array Value) (w:World) (r:Value):Prop:=Calls Tryz.prog F a w fun e w'=>e= .returned r/\Below w.heap.size w w'
def aaa:=@Nat.le_refl
def aab:=@Nat.zero_le
def aac:=@List.getElem?_eq_getElem
def aad:=@List.getElem_append_left
def aae:=@Nat.sub_self
def aaf:=@Nat.add_zero
def aag:=@List.getElem?_cons_zero
def aah:=@List.getElem?_cons_succ
def aai:=@Nat.le_trans
def aaj:=@Below.refl
def aak:=@Nat.add_assoc
def aal:=@List.set_cons_zero
def aam:=@List.flatMap_cons
def aan:=@List.set_append
def aao:=@if_pos
def aap:=@List.set_cons_succ
def aaq:=@if_neg
def aar:=@List.length_set
def aas:=@List.drop_eq_getElem_cons
def aat:=@List.ext_getElem?
def aau:=@List.getElem?_map
def aav:=@List.getElem?_range
def aaw:=@Option.map_some
def aax:=@List.take_succ_eq_append_getElem
def aay:=@List.append_assoc
def aaz:=@List.map_append
def aaA:=@List.take_length
def aaB:=@Nat.lt_succ_self
def aaC:=@List.length_replicate
def aaD:=@Nat.lt_of_lt_of_le
def aaE:=@Nat.pow_le_pow_right
def aaF:=@Nat.zero_add
def aaG:=@Bool.and_eq_true
def aaH:=@Bool.or_eq_true
def aaI:=@List.mem_append
def aaJ:=@decide_eq_false_iff_not
def aaK:=@List.take_of_length_le
def aaL:=@List.all_eq_true
def aaM:=@List.mem_range
def aaN:=@beq_iff_eq
def aaO:=@decide_eq_false
def aaP:=@IntWalk.i64_in
def aaQ:=@decide_eq_true
def aaR:=@Bool.true_and
def aaS:=@List.map_cons
def aaT:=@List.map_nil
def aaU:=@List.length_cons
def aaV:=@Nat.lt_irrefl
def aaW:=@List.length_append
def aaX:=@List.flatMap_append
def aaY:=@Result.andThen_ok
def aaZ:=@Bool.eq_iff_iff
def aa0:=@List.getElem?_set
def aa1:=@Nat.testBit_or
def aa2:=@Nat.testBit_two_pow
def aa3:=@Nat.pow_lt_pow_right
def aa4:=@decide_eq_true_eq
def aa5:=@Int.toNat_natCast
def aa6:=@List.getD_eq_getElem?_getD
def aa7:=@List.pairwise_iff_getElem
def aa8:=@List.length_singleton
def aa9:=@List.mem_singleton
def aba:=@List.getElem_of_mem
def abb:=@List.getElem?_append_right
def abc:=@List.getElem?_append_left
def abd:=@List.getElem?_toArray
def abe:=@List.range_succ
def abf:=@List.filter_append
def abg:=@List.getElem_mem
def abh:=@List.length_pos_of_mem
def abi:=@List.setIfInBounds_toArray
def abj:=@Nat.lt_or_ge
def abk:=@Classical.byContradiction
def abl:=@List.getElem?_replicate
def abm:=@List.length_take
def abn:=@Array.getElem?_eq_getElem
def abo:=@List.take_append_drop
def abp:=@List.getElem_take
def abq:=@List.length_range
def abt:=@List.idxOf_lt_length_of_mem
def abu:=@Nat.mod_eq_of_lt
def abv:=@Nat.eq_zero_or_pos
def abw:=@Array.getElem?_eq_none
def abx:=@List.eq_nil_of_length_eq_zero
def aby:=@Nat.testBit_two_pow_self
def abz:=@List.mem_append_left
def vI (z:Int):Value:= .int .i64 z
def inB (x lo hi:Int):Bool:=decide (lo<=x/\x<=hi)
theorem zc {x lo hi:Int}:inB x lo hi=true↔lo<=x/\x<=hi:=by simp[inB]
theorem z0L {x lo hi:Int}:inB x lo hi=false↔¬(lo<=x/\x<=hi):=by simp[inB]
def RS (w:World) (size:Nat) (v:Value) (n:Nat) (xs:List Value):Prop:=
 xs.length=n*size/\∃A c,v= .slice A n c/\n<=c/\n<=maxLen/\
  (0<n->∃b off,A=some ⟨b,off,none⟩/\b<w.heap.size/\∀j u,xs[j]? =some u->w.cell? ⟨b,off+j,none⟩=some u)
theorem RS.nil (w:World) (size:Nat):RS w size (.slice none 0 0) 0 []:=⟨by simp,none,0,rfl,by omega,by simp[maxLen],fun h=>absurd h o_⟩
theorem RS.below {w w':World} {size n:Nat} {v:Value} {xs:List Value} (h:RS w size v n xs) (hb:Below w.heap.size w w'):RS w' size v n xs:=by
 obtain⟨hl,A,c,hv,h1,h2,h3⟩:=h;refine⟨hl,A,c,hv,h1,h2,fun hn=>?_⟩
 obtain⟨b,off,hA,Hf,hc⟩:=h3 hn;exact⟨b,off,hA,aaD Hf hb.size,fun j u hu=>(hb.cell (p:=⟨b,off+j,none⟩) Hf).trans (hc j u hu)⟩
def RI (w:World) (v:Value) (zs:List Int):Prop:=RS w 1 v zs.length (zs.map vI)
theorem RI.below {w w':World} {v:Value} {zs:List Int} (h:RI w v zs) (hb:Below w.heap.size w w'):RI w' v zs:=RS.below h hb
theorem RI.form {w:World} {v:Value} {zs:List Int} (h:RI w v zs):∃A c,v= .slice A zs.length c/\zs.length<=c/\zs.length<=maxLen/\
  (0<zs.length->∃b off,A=some ⟨b,off,none⟩/\b<w.heap.size/\∀k,k<zs.length->w.cell? ⟨b,off+k,none⟩=some (.int .i64 (zs.getD k 0))):=by
 obtain⟨_,A,c,hv,h1,h2,h3⟩:=h;refine⟨A,c,hv,h1,h2,fun hn=>?_⟩
 obtain⟨b,off,hA,Hf,hc⟩:=h3 hn;refine⟨b,off,hA,Hf,fun k hk=>hc k _ ?_⟩
 rw[aau,aac hk];simp[vI,List.getD,aac hk]
theorem z8 {a b:Bool} (h:a=b):Ending.returned (.bool a)= .returned (.bool b):=by rw[h]
theorem zi {k:IntKind} {a b:Int} (h:a=b):Ending.returned (.int k a)= .returned (.int k b):=by rw[h]
theorem bcell {W w1:World} (hb:Below W.heap.size W w1):(∀b o,b<W.heap.size->w1.cell? ⟨b,o,none⟩=W.cell? ⟨b,o,none⟩)/\(∀b o,b<W.heap.size->w1.frozen? ⟨b,o,none⟩=W.frozen? ⟨b,o,none⟩):=
 ⟨fun b o h=>hb.cell (p:=⟨b,o,none⟩) h,fun b o h=>hb.frozen (p:=⟨b,o,none⟩) h⟩
theorem JQ {W w1:World} (hb:Below W.drew.heap.size W.drew w1):(∀b o,b<W.heap.size->w1.cell? ⟨b,o,none⟩=W.cell? ⟨b,o,none⟩)/\(∀b o,b<W.heap.size->w1.frozen? ⟨b,o,none⟩=W.frozen? ⟨b,o,none⟩):=bcell (W:=W.drew) hb
theorem bcC {W w1:World} (hb:Below W.heap.size W w1):∀b o,b<W.heap.size->w1.cell? ⟨b,o,none⟩=W.cell? ⟨b,o,none⟩:=(bcell hb).1
theorem bcF {W w1:World} (hb:Below W.heap.size W w1):∀b o,b<W.heap.size->w1.frozen? ⟨b,o,none⟩=W.frozen? ⟨b,o,none⟩:=(bcell hb).2
theorem bdC {W w1:World} (hb:Below W.drew.heap.size W.drew w1):∀b o,b<W.heap.size->w1.cell? ⟨b,o,none⟩=W.cell? ⟨b,o,none⟩:=(JQ hb).1
theorem bdF {W w1:World} (hb:Below W.drew.heap.size W.drew w1):∀b o,b<W.heap.size->w1.frozen? ⟨b,o,none⟩=W.frozen? ⟨b,o,none⟩:=(JQ hb).2
theorem ke {B:Nat} {a w:World} (h:Below B a w) (n:Nat):Below B a (w.drewN n):=⟨h.os,h.tape,h.output,h.size,h.block⟩
theorem Below.step {B:Nat} {a w w':World} (h2:Below w.heap.size w w') (h:Below B a w) (hB:B<=w.heap.size):Below B a w':=h.trans (h2.mono hB)
theorem p0_ (w w1:World) (h:w.heap.size<w1.heap.size:=by omega):w.heap.size<w1.heap.size:=h
theorem p1_ (w w1:World) (h:w.heap.size+1<w1.heap.size:=by omega):w.heap.size+1<w1.heap.size:=h
theorem p2_ (w w1:World) (h:w.heap.size+1+1<w1.heap.size:=by omega):w.heap.size+1+1<w1.heap.size:=h
theorem p3_ (w w1:World) (h:w.heap.size+1+1+1<w1.heap.size:=by omega):w.heap.size+1+1+1<w1.heap.size:=h
theorem sz_ {P:Prop} (h:P:=by first|omega|(simp;done)|(simp;omega)):P:=h
theorem bel_ {P:Prop} (h:P:=by(repeat' (first|(with_reducible exact aaj _ _)|(with_reducible assumption)|(with_reducible refine Below.drew ?_)|(with_reducible refine ke ?_ _)|(with_reducible refine Below.alloc ?_ ?_ _)|(with_reducible refine Below.setCell ?_ ?_ _)|(with_reducible refine Below.step (by assumption) ?_ ?_)));all_goals (first|omega|(simp;done)|(simp;omega))):P:=h
end Go.Proofs.YtnjcpljhmhdhkaaGreat
