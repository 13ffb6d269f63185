/- part 0 -/
import Derived.WalkKit
import Derived.WalkSpells
import Derived.WalkLawsBesides
import Derived.Lib.Hide
import Derived.Deep.AppendLies
import Derived.Deep.Draws
import Derived.Test.YtnjcpljhmhdhkaaGreatProg
import Derived.OwnWalk
import Derived.Maps.AppendAt
import Derived.Deep.QuietTactic
import Derived.BigQuiet
import Derived.BigRegion
import Derived.StillTailTactics
import Derived.Outline
import Derived.Deep.RegionHeld3
import Derived.Deep.DeepCutAuto
import Derived.OrdersHeld
import Derived.StillTail
set_option linter.unusedSimpArgs false
set_option linter.unusedVariables false
set_option maxRecDepth 100000
set_option maxHeartbeats 4000000
set_option linter.defProp false
namespace Go.Proofs.YtnjcpljhmhdhkaaGreat
open Go.RowKit
theorem o_ {P:Prop} (h:P:=by omega):P:=h
theorem k_ {P:Prop} (h:P:=by kernel_rfl):P:=h
theorem h_ {P:Prop} (h:P):Hid P:=Lib.hid h
@[reducible] def z8_:Array Value:=#[.slice none 0 0,.slice none 0 0,.slice none 0 0,.slice none 0 0,.slice none 0 0,.slice none 0 0,.slice none 0 0,.int .i64 0]
@[reducible] def z5_:Array Value:=#[.slice none 0 0,.slice none 0 0,.slice none 0 0,.slice none 0 0,.slice none 0 0]
@[reducible] def CB_ (F:FuncId) (a:Array Value) (w:World) (r:Value):Prop:=Calls Tryz.prog F a w fun e w'=>e= .returned r/\Below w.heap.size w w'
def aaa:=@Nat.le_refl
def aab:=@Nat.zero_le
def aac:=@List.getElem?_eq_getElem
def aad:=@List.getElem_append_left
def aae:=@Nat.sub_self
def aaf:=@Nat.add_zero
def aag:=@List.getElem?_cons_zero
def aah:=@List.getElem?_cons_succ
def aai:=@Nat.le_trans
def aaj:=@Below.refl
def aak:=@Nat.add_assoc
def aal:=@List.set_cons_zero
def aam:=@List.flatMap_cons
def aan:=@List.set_append
def aao:=@if_pos
def aap:=@List.set_cons_succ
def aaq:=@if_neg
def aar:=@List.length_set
def aas:=@List.drop_eq_getElem_cons
def aat:=@List.ext_getElem?
def aau:=@List.getElem?_map
def aav:=@List.getElem?_range
def aaw:=@Option.map_some
def aax:=@List.take_succ_eq_append_getElem
def aay:=@List.append_assoc
def aaz:=@List.map_append
def aaA:=@List.take_length
def aaB:=@Nat.lt_succ_self
def aaC:=@List.length_replicate
def aaD:=@Nat.lt_of_lt_of_le
def aaE:=@Nat.pow_le_pow_right
def aaF:=@Nat.zero_add
def aaG:=@Bool.and_eq_true
def aaH:=@Bool.or_eq_true
def aaI:=@List.mem_append
def aaJ:=@decide_eq_false_iff_not
def aaK:=@List.take_of_length_le
def aaL:=@List.all_eq_true
def aaM:=@List.mem_range
def aaN:=@beq_iff_eq
def aaO:=@decide_eq_false
def aaP:=@IntWalk.i64_in
def aaQ:=@decide_eq_true
def aaR:=@Bool.true_and
def aaS:=@List.map_cons
def aaT:=@List.map_nil
def aaU:=@List.length_cons
def aaV:=@Nat.lt_irrefl
def aaW:=@List.length_append
def aaX:=@List.flatMap_append
def aaY:=@Result.andThen_ok
def aaZ:=@Bool.eq_iff_iff
def aa0:=@List.getElem?_set
def aa1:=@Nat.testBit_or
def aa2:=@Nat.testBit_two_pow
def aa3:=@Nat.pow_lt_pow_right
def aa4:=@decide_eq_true_eq
def aa5:=@Int.toNat_natCast
def aa6:=@List.getD_eq_getElem?_getD
def aa7:=@List.pairwise_iff_getElem
def aa8:=@List.length_singleton
def aa9:=@List.mem_singleton
def aba:=@List.getElem_of_mem
def abb:=@List.getElem?_append_right
def abc:=@List.getElem?_append_left
def abd:=@List.getElem?_toArray
def abe:=@List.range_succ
def abf:=@List.filter_append
def abg:=@List.getElem_mem
def abh:=@List.length_pos_of_mem
def abi:=@List.setIfInBounds_toArray
def abj:=@Nat.lt_or_ge
def abk:=@Classical.byContradiction
def abl:=@List.getElem?_replicate
def abm:=@List.length_take
def abn:=@Array.getElem?_eq_getElem
def abo:=@List.take_append_drop
def abp:=@List.getElem_take
def abt:=@List.idxOf_lt_length_of_mem
def abu:=@Nat.mod_eq_of_lt
def abv:=@Nat.eq_zero_or_pos
def abw:=@Array.getElem?_eq_none
def abx:=@List.eq_nil_of_length_eq_zero
def aby:=@Nat.testBit_two_pow_self
def vI (z:Int):Value:= .int .i64 z
def inB (x lo hi:Int):Bool:=decide (lo<=x/\x<=hi)
theorem zf {x lo hi:Int}:inB x lo hi=true↔lo<=x/\x<=hi:=by simp[inB]
theorem Xb {x lo hi:Int}:inB x lo hi=false↔¬(lo<=x/\x<=hi):=by simp[inB]
def RS (w:World) (size:Nat) (v:Value) (n:Nat) (xs:List Value):Prop:=
 xs.length=n*size/\∃A c,v= .slice A n c/\n<=c/\n<=maxLen/\
  (0<n->∃b off,A=some ⟨b,off,none⟩/\b<w.heap.size/\∀j u,xs[j]? =some u->w.cell? ⟨b,off+j,none⟩=some u)
theorem RS.nil (w:World) (size:Nat):RS w size (.slice none 0 0) 0 []:=⟨by simp,none,0,rfl,by omega,by simp[maxLen],fun h=>absurd h o_⟩
theorem RS.below {w w':World} {size n:Nat} {v:Value} {xs:List Value} (h:RS w size v n xs) (hb:Below w.heap.size w w'):RS w' size v n xs:=by
 obtain⟨hl,A,c,hv,h1,h2,h3⟩:=h;refine⟨hl,A,c,hv,h1,h2,fun hn=>?_⟩
 obtain⟨b,off,hA,Hf,hc⟩:=h3 hn;exact⟨b,off,hA,aaD Hf hb.size,fun j u hu=>(hb.cell (p:=⟨b,off+j,none⟩) Hf).trans (hc j u hu)⟩
def RI (w:World) (v:Value) (zs:List Int):Prop:=RS w 1 v zs.length (zs.map vI)
theorem RI.below {w w':World} {v:Value} {zs:List Int} (h:RI w v zs) (hb:Below w.heap.size w w'):RI w' v zs:=RS.below h hb
theorem RI.form {w:World} {v:Value} {zs:List Int} (h:RI w v zs):∃A c,v= .slice A zs.length c/\zs.length<=c/\zs.length<=maxLen/\
  (0<zs.length->∃b off,A=some ⟨b,off,none⟩/\b<w.heap.size/\∀k,k<zs.length->w.cell? ⟨b,off+k,none⟩=some (.int .i64 (zs.getD k 0))):=by
 obtain⟨_,A,c,hv,h1,h2,h3⟩:=h;refine⟨A,c,hv,h1,h2,fun hn=>?_⟩
 obtain⟨b,off,hA,Hf,hc⟩:=h3 hn;refine⟨b,off,hA,Hf,fun k hk=>hc k _ ?_⟩
 rw[aau,aac hk];simp[vI,List.getD,aac hk]
theorem z8 {a b:Bool} (h:a=b):Ending.returned (.bool a)= .returned (.bool b):=by rw[h]
theorem zo {k:IntKind} {a b:Int} (h:a=b):Ending.returned (.int k a)= .returned (.int k b):=by rw[h]
theorem bcell {W w1:World} (hb:Below W.heap.size W w1):(∀b o,b<W.heap.size->w1.cell? ⟨b,o,none⟩=W.cell? ⟨b,o,none⟩)/\(∀b o,b<W.heap.size->w1.frozen? ⟨b,o,none⟩=W.frozen? ⟨b,o,none⟩):=
 ⟨fun b o h=>hb.cell (p:=⟨b,o,none⟩) h,fun b o h=>hb.frozen (p:=⟨b,o,none⟩) h⟩
theorem JO {W w1:World} (hb:Below W.drew.heap.size W.drew w1):(∀b o,b<W.heap.size->w1.cell? ⟨b,o,none⟩=W.cell? ⟨b,o,none⟩)/\(∀b o,b<W.heap.size->w1.frozen? ⟨b,o,none⟩=W.frozen? ⟨b,o,none⟩):=bcell (W:=W.drew) hb
theorem bcC {W w1:World} (hb:Below W.heap.size W w1):∀b o,b<W.heap.size->w1.cell? ⟨b,o,none⟩=W.cell? ⟨b,o,none⟩:=(bcell hb).1
theorem bcF {W w1:World} (hb:Below W.heap.size W w1):∀b o,b<W.heap.size->w1.frozen? ⟨b,o,none⟩=W.frozen? ⟨b,o,none⟩:=(bcell hb).2
theorem bdC {W w1:World} (hb:Below W.drew.heap.size W.drew w1):∀b o,b<W.heap.size->w1.cell? ⟨b,o,none⟩=W.cell? ⟨b,o,none⟩:=(JO hb).1
theorem bdF {W w1:World} (hb:Below W.drew.heap.size W.drew w1):∀b o,b<W.heap.size->w1.frozen? ⟨b,o,none⟩=W.frozen? ⟨b,o,none⟩:=(JO hb).2
theorem vV {B:Nat} {a w:World} (h:Below B a w) (n:Nat):Below B a (w.drewN n):=⟨h.os,h.tape,h.output,h.size,h.block⟩
theorem Below.step {B:Nat} {a w w':World} (h2:Below w.heap.size w w') (h:Below B a w) (hB:B<=w.heap.size):Below B a w':=h.trans (h2.mono hB)
theorem p0_ (w w1:World) (h:w.heap.size<w1.heap.size:=by omega):w.heap.size<w1.heap.size:=h
theorem p1_ (w w1:World) (h:w.heap.size+1<w1.heap.size:=by omega):w.heap.size+1<w1.heap.size:=h
theorem p2_ (w w1:World) (h:w.heap.size+1+1<w1.heap.size:=by omega):w.heap.size+1+1<w1.heap.size:=h
theorem p3_ (w w1:World) (h:w.heap.size+1+1+1<w1.heap.size:=by omega):w.heap.size+1+1+1<w1.heap.size:=h
theorem sz_ {P:Prop} (h:P:=by first|omega|(simp;done)|(simp;omega)):P:=h
theorem bel_ {P:Prop} (h:P:=by(repeat' (first|(with_reducible exact aaj _ _)|(with_reducible assumption)|(with_reducible refine Below.drew ?_)|(with_reducible refine vV ?_ _)|(with_reducible refine Below.alloc ?_ ?_ _)|(with_reducible refine Below.setCell ?_ ?_ _)|(with_reducible refine Below.step (by assumption) ?_ ?_)));all_goals (first|omega|(simp;done)|(simp;omega))):P:=h
theorem qu:(Tryz.prog.info? 3).map (fun i=>(i.zero,i.size,i.bytes))=some (some (.int .i64 0),1,8):=by kernel_rfl
def OwnI (base:Nat) (w:World) (v:Value) (zs:List Int):Prop:=w.ownsRow base 3 1 v zs.length (zs.map vI)
theorem OwnI.nil (base:Nat) (w:World):OwnI base w (.slice none 0 0) []:=World.ownsRow_nil _ _ _ _
theorem OwnI.alloc {base:Nat} {w:World} {v:Value} {zs:List Int} (h:OwnI base w v zs) (o:Obj):OwnI base (w.alloc o) v zs:=World.ownsRow.alloc h o
theorem OwnI.kept {base:Nat} {w w':World} {v:Value} {zs:List Int} (h:OwnI base w v zs) (hb:Below w.heap.size w w'):OwnI base w' v zs:=by
 refine World.ownsRow.kept (row:=none) h ⟨hb.os,hb.tape,hb.output,hb.size,fun k hk _=>hb.block k hk⟩ ?_
 cases hv:v.ownBlock with
 |none=>exact .inl rfl
 |some k=>exact .inr (by simp)
theorem OwnI.mono {base base':Nat} {w:World} {v:Value} {zs:List Int} (h:OwnI base w v zs) (hb:base'<=base):OwnI base' w v zs:=by
 obtain⟨h1,h2⟩:=h;refine⟨h1,?_⟩
 rcases h2 with h2|⟨g,cap,cur,e1,e2,e3⟩
 ·exact .inl h2
 ·exact .inr ⟨g,cap,cur,e1,aai hb e2,e3⟩
theorem OwnI.lt {base:Nat} {w:World} {v:Value} {zs:List Int} (h:OwnI base w v zs):∀k,v.ownBlock=some k->base<=k/\k<w.heap.size:=World.ownsRow.lt h
theorem OwnI.reads {base:Nat} {w:World} {v:Value} {zs:List Int} (h:OwnI base w v zs):RI w v zs:=by
 obtain⟨h1,h2⟩:=h;refine⟨h1,?_⟩
 rcases h2 with ⟨rfl,hn⟩|⟨g,cap,cur,rfl,_,hh,CC,Bh,gx,co⟩
 ·exact⟨none,0,by rw[hn],by omega,by rw[hn];simp[maxLen],fun hp=>absurd hp o_⟩
 ·refine⟨_,cap,rfl,CC,by omega,fun hp=>⟨g,0,rfl,?_,fun j u hu=>?_⟩⟩
  ·rcases abj g w.heap.size with Hf|Nd
   ·exact Hf
   ·rw[abw Nd] at hh;cases hh
  ·rw[aaF,cell_of_row _ _ _ cur 3 (0,0) hh]
   rw[<-co] at hu;rw[List.getElem?_take] at hu
   split at hu
   ·simpa using hu
   ·cases hu
theorem OwnI.snoc {base:Nat} {w:World} {v:Value} {zs:List Int} {x:Int} (h:w.ownsRow base 3 1 v (zs.length+1) (zs.map vI++[.int .i64 x])):OwnI base w v (zs++[x]):=by
 unfold OwnI;rw[aaW,aaz];exact h
def RetI (zs:List Int) (w:World) (e:Ending) (w':World):Prop:=∃v,e= .returned v/\OwnI w.heap.size w' v zs/\Below w.heap.size w w'
theorem vj {α:Type} [DecidableEq α] {l r:List α} {k:Nat} (h:l.take k=r.take k) (hl:k<l.length) (hr:k<r.length) (he:l[k]=r[k]):l.take (k+1)=r.take (k+1):=by
 rw[aax hl,aax hr,h,he]
theorem zb {a b c:World} {row:Option Nat} (h:a.grownBy b row) (k:b.grownBy c row):a.grownBy c row:=World.grownBy.trans h k
theorem vS {a w:World} {g:Nat} (h:a.grownBy w (some g)) (j:Nat) (u:Value):a.grownBy (w.setCell ⟨g,j,none⟩ u) (some g):=
 ⟨h.os,h.tape,h.output,by simpa[World.setCell] using h.size,fun i hi gd=>(Below.heap_setCell w ⟨g,j,none⟩ u i (fun e=>gd (by rw[e]))).trans (h.block i hi gd)⟩
def mn2 (x y:Int):Int:=if y<x then y else x
def mx2 (x y:Int):Int:=if x<y then y else x
theorem Qe (x y:Int):mn2 x y=min x y:=by unfold mn2;split<;>omega
theorem vr (x y:Int):mx2 x y=max x y:=by unfold mx2;split<;>omega
section
variable {P:Program} (w:World)
theorem zR (ts:Array TypeId) (t:TypeId) (k k':IntKind) (x y:Int):(Builtin.min_ ts t #[.int k x,.int k' y]).run P w= .ok (.int k (mn2 x y)) w:=by
 rw[run_min_int2];rfl
theorem zQ (ts:Array TypeId) (t:TypeId) (k k':IntKind) (x y:Int):(Builtin.max_ ts t #[.int k x,.int k' y]).run P w= .ok (.int k (mx2 x y)) w:=by
 rw[vr];simp[Builtin.max_,Builtin.max2]
 split<;>omega
end
theorem qm {α:Type} (f:α->List Value) (n:Nat) (hf:∀x,(f x).length =n):∀l:List α,(l.flatMap f).length =l.length*n
 | []=>by simp
 |x::l=>by rw[aam,aaW,hf,qm f n hf l,aaU,Nat.add_mul];omega
theorem yw {α:Type} (f:α->List Value) (n:Nat) (hf:∀x,(f x).length =n):∀(l:List α) (k j:Nat) (hk:k<l.length) (hj:j<n),(l.flatMap f)[k*n+j]? =(f l[k])[j]?
 | [],k,j,hk,hj=>absurd hk (by simp)
 |x::l,0,j,hk,hj=>by
  rw[aam,abc (by rw[hf];omega)];simp
 |x::l,k+1,j,hk,hj=>by
  rw[aam,abb (by rw[hf,Nat.add_mul];omega),hf,show(k+1)*n+j -n=k*n+j by rw[Nat.add_mul];omega,
   yw f n hf l k j (by simpa using hk) hj]
  simp
def Blk (w:World) (g:Nat) (t:TypeId) (cs:Array Value):Prop:=w.heap[g]? =some (.cells cs t (0,0))
section
variable {w w':World} {g:Nat} {t:TypeId} {cs:Array Value}
theorem Blk.lt (h:Blk w g t cs):g<w.heap.size:=by
 rcases abj g w.heap.size with Hf|Nd
 ·exact Hf
 ·unfold Blk at h;rw[abw Nd] at h;cases h
theorem Blk.cell (h:Blk w g t cs) (i:Nat):w.cell? ⟨g,i,none⟩=cs[i]? :=cell_of_row w g i cs t (0,0) h
theorem Blk.frozen (h:Blk w g t cs) (i:Nat):w.frozen? ⟨g,i,none⟩=false:=by
 unfold Blk at h;simp[World.frozen?,h]
theorem Blk.new (w:World) (t:TypeId) (cs:Array Value):Blk (w.alloc (.cells cs t)) w.heap.size t cs:=heap_alloc_new w _
theorem Blk.drew (h:Blk w g t cs):Blk w.drew g t cs:=h
theorem Blk.drewN (h:Blk w g t cs) (n:Nat):Blk (w.drewN n) g t cs:=h
theorem Blk.alloc (h:Blk w g t cs) (o:Obj):Blk (w.alloc o) g t cs:=(Below.heap_alloc w o g h.lt).trans h
theorem Blk.set_ (h:Blk w g t cs) (i:Nat) (u:Value):Blk (w.setCell ⟨g,i,none⟩ u) g t (cs.setIfInBounds i u):=by
 unfold Blk at h⊢;simp[World.setCell,Array.getElem?_modify,h]
theorem Blk.far (h:Blk w g t cs) {p:Addr} (hp:g≠p.block) (u:Value):Blk (w.setCell p u) g t cs:=(Below.heap_setCell w p u g hp).trans h
theorem Blk.below {B:Nat} (h:Blk w g t cs) (hb:Below B w w') (hg:g<B):Blk w' g t cs:=(hb.block g hg).trans h
end
theorem Blk.c2 {w:World} {g:Nat} {t:TypeId} {v0 v1:Value} (h:Blk w g t #[v0,v1]):w.cell? ⟨g,0,none⟩=some v0/\w.cell? ⟨g,1,none⟩=some v1:=⟨h.cell 0,h.cell 1⟩
theorem Blk.b2 {w:World} {g:Nat} {t:TypeId} {v0 v1:Value} (h:Blk w g t #[v0,v1]):w.cell? ⟨g,0,none⟩=some v0/\w.cell? ⟨g,1,none⟩=some v1/\w.frozen? ⟨g,0,none⟩=false/\w.frozen? ⟨g,1,none⟩=false:=⟨h.cell 0,h.cell 1,h.frozen 0,h.frozen 1⟩
theorem Blk.c3 {w:World} {g:Nat} {t:TypeId} {v0 v1 v2:Value} (h:Blk w g t #[v0,v1,v2]):w.cell? ⟨g,0,none⟩=some v0/\w.cell? ⟨g,1,none⟩=some v1/\w.cell? ⟨g,2,none⟩=some v2:=⟨h.cell 0,h.cell 1,h.cell 2⟩
theorem Blk.b3 {w:World} {g:Nat} {t:TypeId} {v0 v1 v2:Value} (h:Blk w g t #[v0,v1,v2]):w.cell? ⟨g,0,none⟩=some v0/\w.cell? ⟨g,1,none⟩=some v1/\w.cell? ⟨g,2,none⟩=some v2/\w.frozen? ⟨g,0,none⟩=false/\w.frozen? ⟨g,1,none⟩=false/\w.frozen? ⟨g,2,none⟩=false:=⟨h.cell 0,h.cell 1,h.cell 2,h.frozen 0,h.frozen 1,h.frozen 2⟩
theorem Blk.c5 {w:World} {g:Nat} {t:TypeId} {v0 v1 v2 v3 v4:Value} (h:Blk w g t #[v0,v1,v2,v3,v4]):w.cell? ⟨g,0,none⟩=some v0/\w.cell? ⟨g,1,none⟩=some v1/\w.cell? ⟨g,2,none⟩=some v2/\w.cell? ⟨g,3,none⟩=some v3/\w.cell? ⟨g,4,none⟩=some v4:=⟨h.cell 0,h.cell 1,h.cell 2,h.cell 3,h.cell 4⟩
theorem Blk.b5 {w:World} {g:Nat} {t:TypeId} {v0 v1 v2 v3 v4:Value} (h:Blk w g t #[v0,v1,v2,v3,v4]):w.cell? ⟨g,0,none⟩=some v0/\w.cell? ⟨g,1,none⟩=some v1/\w.cell? ⟨g,2,none⟩=some v2/\w.cell? ⟨g,3,none⟩=some v3/\w.cell? ⟨g,4,none⟩=some v4/\w.frozen? ⟨g,0,none⟩=false/\w.frozen? ⟨g,1,none⟩=false/\w.frozen? ⟨g,2,none⟩=false/\w.frozen? ⟨g,3,none⟩=false/\w.frozen? ⟨g,4,none⟩=false:=⟨h.cell 0,h.cell 1,h.cell 2,h.cell 3,h.cell 4,h.frozen 0,h.frozen 1,h.frozen 2,h.frozen 3,h.frozen 4⟩
theorem Blk.c8 {w:World} {g:Nat} {t:TypeId} {v0 v1 v2 v3 v4 v5 v6 v7:Value} (h:Blk w g t #[v0,v1,v2,v3,v4,v5,v6,v7]):w.cell? ⟨g,0,none⟩=some v0/\w.cell? ⟨g,1,none⟩=some v1/\w.cell? ⟨g,2,none⟩=some v2/\w.cell? ⟨g,3,none⟩=some v3/\w.cell? ⟨g,4,none⟩=some v4/\w.cell? ⟨g,5,none⟩=some v5/\w.cell? ⟨g,6,none⟩=some v6/\w.cell? ⟨g,7,none⟩=some v7:=⟨h.cell 0,h.cell 1,h.cell 2,h.cell 3,h.cell 4,h.cell 5,h.cell 6,h.cell 7⟩
theorem Blk.b8 {w:World} {g:Nat} {t:TypeId} {v0 v1 v2 v3 v4 v5 v6 v7:Value} (h:Blk w g t #[v0,v1,v2,v3,v4,v5,v6,v7]):w.cell? ⟨g,0,none⟩=some v0/\w.cell? ⟨g,1,none⟩=some v1/\w.cell? ⟨g,2,none⟩=some v2/\w.cell? ⟨g,3,none⟩=some v3/\w.cell? ⟨g,4,none⟩=some v4/\w.cell? ⟨g,5,none⟩=some v5/\w.cell? ⟨g,6,none⟩=some v6/\w.cell? ⟨g,7,none⟩=some v7/\w.frozen? ⟨g,0,none⟩=false/\w.frozen? ⟨g,1,none⟩=false/\w.frozen? ⟨g,2,none⟩=false/\w.frozen? ⟨g,3,none⟩=false/\w.frozen? ⟨g,4,none⟩=false/\w.frozen? ⟨g,5,none⟩=false/\w.frozen? ⟨g,6,none⟩=false/\w.frozen? ⟨g,7,none⟩=false:=⟨h.cell 0,h.cell 1,h.cell 2,h.cell 3,h.cell 4,h.cell 5,h.cell 6,h.cell 7,h.frozen 0,h.frozen 1,h.frozen 2,h.frozen 3,h.frozen 4,h.frozen 5,h.frozen 6,h.frozen 7⟩
theorem Blk.newAt {w:World} {g:Nat} {t:TypeId} {cs:Array Value} (h:g=w.heap.size):Blk (w.alloc (.cells cs t)) g t cs:=by
 subst h;exact Blk.new w t cs
theorem ku {base:Nat} {w:World} {e:TypeId} {size:Nat} {v:Value} {n:Nat} {xs:List Value} (h:w.ownsRow base e size v n xs):RS w size v n xs:=by
 obtain⟨h1,h2⟩:=h;refine⟨h1,?_⟩
 rcases h2 with ⟨rfl,hn⟩|⟨g,cap,cur,rfl,_,hh,CC,Bh,gx,co⟩
 ·exact⟨none,0,by rw[hn],by omega,by rw[hn];simp[maxLen],fun hp=>absurd hp o_⟩
 ·refine⟨_,cap,rfl,CC,by omega,fun hp=>⟨g,0,rfl,?_,fun j u hu=>?_⟩⟩
  ·rcases abj g w.heap.size with Hf|Nd
   ·exact Hf
   ·rw[abw Nd] at hh;cases hh
  ·rw[aaF,cell_of_row _ _ _ cur e (0,0) hh]
   rw[<-co] at hu;rw[List.getElem?_take] at hu
   split at hu
   ·simpa using hu
   ·cases hu
theorem qj {base:Nat} {w w':World} {e:TypeId} {size:Nat} {v:Value} {n:Nat} {xs:List Value} (h:w.ownsRow base e size v n xs) (hb:Below w.heap.size w w'):w'.ownsRow base e size v n xs:=by
 refine World.ownsRow.kept (row:=none) h ⟨hb.os,hb.tape,hb.output,hb.size,fun k hk _=>hb.block k hk⟩ ?_
 cases hv:v.ownBlock with
 |none=>exact .inl rfl
 |some k=>exact .inr (by simp)
theorem Blk.grown {w w':World} {b g:Nat} {t:TypeId} {cs:Array Value} (h:Blk w b t cs) (hg:w.grownBy w' (some g)) (gd:b≠g):Blk w' b t cs:=
 (hg.block b h.lt (fun e=>gd (by cases e;rfl))).trans h
theorem jf {a w:World} {row:Option Nat} (h:a.grownBy w row) (o:Obj):a.grownBy (w.alloc o) row:=
 ⟨h.os,h.tape,h.output,aai h.size (by simp),fun i hi gd=>(Below.heap_alloc w o i (aaD hi h.size)).trans (h.block i hi gd)⟩
theorem Qr {a w:World} {row:Option Nat} (h:a.grownBy w row) (n:Nat):a.grownBy (w.drewN n) row:=⟨h.os,h.tape,h.output,h.size,h.block⟩
theorem OwnI.cell {base:Nat} {w:World} {g cap n:Nat} {G:List Int} (h:OwnI base w (.slice (some ⟨g,0,none⟩) n cap) G) {q:Nat} (hq:q<G.length):w.cell? ⟨g,q,none⟩=some (.int .i64 (G.getD q 0)):=by
 have hn:=h.1;have ho:w.ownsRow base 3 1 (.slice (some ⟨g,0,none⟩) n cap) G.length (G.map vI):=h
 have e:n=G.length:=by
  rcases ho.2 with ⟨e,_⟩|⟨g',cap',cur,e,_⟩
  ·cases e
  ·injection e
 subst e;rw[ho.cellAt q o_,aau,aac hq];simp[vI,List.getD,aac hq]
theorem OwnI.frz {base:Nat} {w:World} {g cap n:Nat} {G:List Int} (h:OwnI base w (.slice (some ⟨g,0,none⟩) n cap) G) (q:Nat):w.frozen? ⟨g,q,none⟩=false:=by
 have ho:w.ownsRow base 3 1 (.slice (some ⟨g,0,none⟩) n cap) G.length (G.map vI):=h
 have e:n=G.length:=by
  rcases ho.2 with ⟨e,_⟩|⟨g',cap',cur,e,_⟩
  ·cases e
  ·injection e
 subst e;exact ho.frozenAt q
theorem OwnI.set_ {base:Nat} {w:World} {g cap n:Nat} {G:List Int} (h:OwnI base w (.slice (some ⟨g,0,none⟩) n cap) G) (q:Nat) (x:Int):
  OwnI base (w.setCell ⟨g,q,none⟩ (.int .i64 x)) (.slice (some ⟨g,0,none⟩) n cap) (G.set q x):=by
 have ho:w.ownsRow base 3 1 (.slice (some ⟨g,0,none⟩) n cap) G.length (G.map vI):=h
 have e:n=G.length:=by
  rcases ho.2 with ⟨e,_⟩|⟨g',cap',cur,e,_⟩
  ·cases e
  ·injection e
 subst e;have:=(ho.stored q (.int .i64 x)).1;unfold OwnI;rw[aar,List.map_set];exact this
theorem OwnI.far {base:Nat} {w w':World} {v:Value} {zs:List Int} {row:Option Nat} (h:OwnI base w v zs) (hg:w.grownBy w' row) (hr:∀k,row=some k->k<base):OwnI base w' v zs:=by
 refine World.ownsRow.kept h hg ?_
 cases hv:v.ownBlock with
 |none=>exact .inl rfl
 |some k=>
  right
  rintro rfl;have:=hr k rfl;have:=(OwnI.lt h k hv).1;omega
def prc (p:Int×Int):List Value:=[.int .i64 p.1,.int .i64 p.2]
def RP (w:World) (v:Value) (l:List (Int×Int)):Prop:=RS w 2 v l.length (l.flatMap prc)
theorem RP.below {w w':World} {v:Value} {l:List (Int×Int)} (h:RP w v l) (hb:Below w.heap.size w w'):RP w' v l:=RS.below h hb
theorem RP.form {w:World} {v:Value} {l:List (Int×Int)} (h:RP w v l):∃A c,v= .slice A l.length c/\l.length<=c/\l.length<=maxLen/\
  (0<l.length->∃b off,A=some ⟨b,off,none⟩/\b<w.heap.size/\∀k (hk:k<l.length),w.cell? ⟨b,off+k*2,none⟩=some (.int .i64 l[k].1)/\w.cell? ⟨b,off+k*2+1,none⟩=some (.int .i64 l[k].2)):=by
 obtain⟨_,A,c,hv,h1,h2,h3⟩:=h;refine⟨A,c,hv,h1,h2,fun hn=>?_⟩
 obtain⟨b,off,hA,Hf,hc⟩:=h3 hn;refine⟨b,off,hA,Hf,fun k hk=>?_⟩
 have g:=fun j hj=>yw prc 2 (fun _=>rfl) l k j hk hj
 refine⟨?_,?_⟩
 ·exact hc (k*2+0) _ (by rw[g 0 o_];rfl)
 ·have:=hc (k*2+1) _ (by rw[g 1 o_];rfl);rwa [<-aak] at this
theorem j6 {w:World} {l:List (Int×Int)} {cs:Array Value} {t:TypeId} {g n c:Nat} (hg:g=w.heap.size) (fU:cs.toList=l.flatMap prc) (hn:n=l.length) (hc:c=l.length) (hm:l.length<=maxLen):
  RP (w.alloc (.cells cs t)) (.slice (some ⟨g,0,none⟩) n c) l:=by
 subst hg hn hc;refine⟨qm prc 2 (fun _=>rfl) l,_,_,rfl,by omega,hm,fun hn=>⟨w.heap.size,0,rfl,by simp,fun j u hu=>?_⟩⟩
 rw[<-fU] at hu;have mh:cs[j]? =some u:=by simpa using hu
 rw[aaF,cell_of_row _ _ _ cs t (0,0) (heap_alloc_new w _)];exact mh
def OwnP (t:TypeId) (base:Nat) (w:World) (v:Value) (l:List (Int×Int)):Prop:=w.ownsRow base t 2 v l.length (l.flatMap prc)
theorem OwnP.form {t:TypeId} {base:Nat} {w:World} {v:Value} {l:List (Int×Int)} (h:OwnP t base w v l):∃A c,v= .slice A l.length c:=by
 rcases h.2 with ⟨rfl,hn⟩|⟨g,cap,cur,rfl,_⟩
 ·exact⟨none,0,by rw[hn]⟩
 ·exact⟨_,_,rfl⟩
section
variable {t:TypeId} {base:Nat} {w w':World} {v:Value} {l:List (Int×Int)}
theorem OwnP.nil (t:TypeId) (base:Nat) (w:World):OwnP t base w (.slice none 0 0) []:=World.ownsRow_nil _ _ _ _
theorem OwnP.reads (h:OwnP t base w v l):RP w v l:=ku h
theorem OwnP.kept (h:OwnP t base w v l) (hb:Below w.heap.size w w'):OwnP t base w' v l:=qj h hb
theorem OwnP.alloc (h:OwnP t base w v l) (o:Obj):OwnP t base (w.alloc o) v l:=World.ownsRow.alloc h o
theorem OwnP.drew (h:OwnP t base w v l):OwnP t base w.drew v l:=h
theorem OwnP.lt (h:OwnP t base w v l):∀k,v.ownBlock=some k->base<=k/\k<w.heap.size:=World.ownsRow.lt h
theorem OwnP.mono {base':Nat} (h:OwnP t base w v l) (hb:base'<=base):OwnP t base' w v l:=by
 obtain⟨h1,h2⟩:=h;refine⟨h1,?_⟩
 rcases h2 with h2|⟨g,cap,cur,e1,e2,e3⟩
 ·exact .inl h2
 ·exact .inr ⟨g,cap,cur,e1,aai hb e2,e3⟩
theorem OwnP.far {row:Option Nat} (h:OwnP t base w v l) (hg:w.grownBy w' row) (hr:∀k,row=some k->k<base):OwnP t base w' v l:=by
 refine World.ownsRow.kept h hg ?_
 cases hv:v.ownBlock with
 |none=>exact .inl rfl
 |some k=>
  right
  rintro rfl;have:=hr k rfl;have:=(OwnP.lt h k hv).1;omega
end
theorem OwnP.apart {t:TypeId} {base:Nat} {w w':World} {v:Value} {l:List (Int×Int)} {row:Option Nat} (h:OwnP t base w v l) (hg:w.grownBy w' row) (hr:∀k,v.ownBlock=some k->row=some k->False):OwnP t base w' v l:=by
 refine World.ownsRow.kept h hg ?_
 cases hv:v.ownBlock with
 |none=>exact .inl rfl
 |some k=>exact .inr (fun e=>hr k hv e.symm)
theorem qS (w:World) (p:Addr) (u:Value):w.grownBy (w.setCell p u) (some p.block):=
 ⟨rfl,rfl,rfl,by simp[World.setCell],fun i hi gd=>Below.heap_setCell w p u i (fun e=>gd (by rw[e]))⟩
theorem OwnP.setLow {t:TypeId} {base:Nat} {w:World} {v:Value} {l:List (Int×Int)} (h:OwnP t base w v l) {p:Addr} (hp:p.block<base) (u:Value):OwnP t base (w.setCell p u) v l:=
 h.far (qS w p u) (fun k hk=>by cases hk;exact hp)
theorem OwnP.len {t:TypeId} {base:Nat} {w:World} {g n cap:Nat} {G:List (Int×Int)} (h:OwnP t base w (.slice (some ⟨g,0,none⟩) n cap) G):n=G.length:=by
 have ho:w.ownsRow base t 2 (.slice (some ⟨g,0,none⟩) n cap) G.length (G.flatMap prc):=h
 rcases ho.2 with ⟨e,_⟩|⟨g',cap',cur,e,_⟩
 ·cases e
 ·injection e
theorem z1y:∀(l:List (Int×Int)) (k:Nat) (x:Int×Int),k<l.length->(l.set k x).flatMap prc=((l.flatMap prc).set (k*2) (.int .i64 x.1)).set (k*2+1) (.int .i64 x.2)
 | [],k,x,h=>absurd h (by simp)
 |a::l,0,x,h=>by simp[prc]
 |a::l,k+1,x,h=>by
  have ih:=z1y l k x (by simpa using h);have e:(k+1)*2=k*2+1+1:=o_
  rw[aap,aam,ih,aam,e];simp[prc]
theorem OwnP.cell {t:TypeId} {base:Nat} {w:World} {g n cap:Nat} {G:List (Int×Int)} (h:OwnP t base w (.slice (some ⟨g,0,none⟩) n cap) G) {q:Nat} (hq:q<G.length):
  w.cell? ⟨g,q*2,none⟩=some (.int .i64 G[q].1)/\w.cell? ⟨g,q*2+1,none⟩=some (.int .i64 G[q].2):=by
 have e:=h.len;subst e;have ho:w.ownsRow base t 2 (.slice (some ⟨g,0,none⟩) G.length cap) G.length (G.flatMap prc):=h;have g':=fun j hj=>yw prc 2 (fun _=>rfl) G q j hq hj
 refine⟨?_,?_⟩
 ·rw[ho.cellAt _ o_];have:=g' 0 o_;rw[aaf] at this;rw[this];rfl
 ·rw[ho.cellAt _ o_,g' 1 o_];rfl
theorem OwnP.frz {t:TypeId} {base:Nat} {w:World} {g n cap:Nat} {G:List (Int×Int)} (h:OwnP t base w (.slice (some ⟨g,0,none⟩) n cap) G) (q:Nat):w.frozen? ⟨g,q,none⟩=false:=by
 have e:=h.len;subst e;have ho:w.ownsRow base t 2 (.slice (some ⟨g,0,none⟩) G.length cap) G.length (G.flatMap prc):=h;exact ho.frozenAt q
theorem OwnP.set_ {t:TypeId} {base:Nat} {w:World} {g n cap:Nat} {G:List (Int×Int)} (h:OwnP t base w (.slice (some ⟨g,0,none⟩) n cap) G) {q:Nat} (hq:q<G.length) (x y:Int):
  OwnP t base ((w.setCell ⟨g,q*2,none⟩ (.int .i64 x)).setCell ⟨g,q*2+1,none⟩ (.int .i64 y)) (.slice (some ⟨g,0,none⟩) n cap) (G.set q (x,y)):=by
 have e:=h.len;subst e;have ho:w.ownsRow base t 2 (.slice (some ⟨g,0,none⟩) G.length cap) G.length (G.flatMap prc):=h;have:=((ho.stored (q*2) (.int .i64 x)).1.stored (q*2+1) (.int .i64 y)).1;unfold OwnP;rw[aar,z1y G q (x,y) hq];exact this
def prB (a b c d:Int):Bool:=a==c&&b==d
theorem vX {a b c d:Int}:prB a b c d=true↔(a,b)=(c,d):=by simp[prB]
theorem kZ (a b:Int):prB a b a b=true:=by simp[prB]
theorem zr (a b c d:Int) (w:World):(binOp .eql 106 (.agg #[.int .i64 a,.int .i64 b]) (.agg #[.int .i64 c,.int .i64 d])).run Tryz.prog w= .ok (.bool (prB a b c d)) w:=by
 go_simp;unfold prB
 by_cases h1:a=c<;>by_cases h2:b=d<;>simp[h1,h2]
theorem Qg (a b c d:Int) (w:World):(binOp .eql 108 (.agg #[.int .i64 a,.int .i64 b]) (.agg #[.int .i64 c,.int .i64 d])).run Tryz.prog w= .ok (.bool (prB a b c d)) w:=by
 go_simp;unfold prB
 by_cases h1:a=c<;>by_cases h2:b=d<;>simp[h1,h2]
theorem zt (a b c d:Int) (w:World):(binOp .neq 106 (.agg #[.int .i64 a,.int .i64 b]) (.agg #[.int .i64 c,.int .i64 d])).run Tryz.prog w= .ok (.bool (!(prB a b c d))) w:=by
 go_simp;unfold prB
 by_cases h1:a=c<;>by_cases h2:b=d<;>simp[h1,h2]
theorem Ql (a b c d:Int) (w:World):(binOp .neq 108 (.agg #[.int .i64 a,.int .i64 b]) (.agg #[.int .i64 c,.int .i64 d])).run Tryz.prog w= .ok (.bool (!(prB a b c d))) w:=by
 go_simp;unfold prB
 by_cases h1:a=c<;>by_cases h2:b=d<;>simp[h1,h2]
theorem ko:(Tryz.prog.info? 106).map (fun i=>(i.zero,i.size,i.bytes))=some (some (.agg #[.int .i64 0,.int .i64 0]),2,16):=by kernel_rfl
theorem jb:(Tryz.prog.info? 108).map (fun i=>(i.zero,i.size,i.bytes))=some (some (.agg #[.int .i64 0,.int .i64 0]),2,16):=by kernel_rfl
theorem yA (n lo hi:Int) (w:World):
  Calls Tryz.prog 78 #[.int .i64 n,.int .i64 lo,.int .i64 hi] w fun e w'=>e= .returned (.bool (inB n lo hi))/\w=w':=by
 go_enter Tryz.func78,Tryz.ntmps78
 go_wp2
 all_goals go_ret
 all_goals refine⟨z8 ?_,rfl⟩
 all_goals first|(simp[inB, *];done)|(simp[inB, *];omega)
theorem j7 (n lo hi:Int) (w:World):
  Calls Tryz.prog 138 #[.int .i64 n,.int .i64 lo,.int .i64 hi] w fun e w'=>e= .returned (.bool (inB n lo hi))/\w=w':=by
 go_enter Tryz.func138,Tryz.ntmps138
 go_wp2
 all_goals go_ret
 all_goals refine⟨z8 ?_,rfl⟩
 all_goals first|(simp[inB, *];done)|(simp[inB, *];omega)
attribute [local go_sem ↓] zr zt zR zQ
def zh (x y:Int):Bool:=inB x 0 20&&inB y 0 20
theorem zD {x y:Int} (h:zh x y=true):0<=x/\x<=20/\0<=y/\y<=20:=by
 simp[zh,inB] at h;omega
def q7 (ax ay bx by' cx cy:Int):Int:=(bx -ax)*(cy -ay) -(by' -ay)*(cx -ax)
def yy (ax ay bx by' cx cy:Int):Bool:=
 zh ax ay&&zh bx by'&&zh cx cy&& !(prB ax ay bx by')&& !(prB bx by' cx cy)&& !(prB ax ay cx cy)&&(q7 ax ay bx by' cx cy==0)&&inB cx (mn2 ax bx) (mx2 ax bx)&&inB cy (mn2 ay by') (mx2 ay by')
theorem vY {u v:Int} (h1: -20<=u) (h2:u<=20) (h3: -20<=v) (h4:v<=20): -400<=u*v/\u*v<=400:=by
 have h:(u*v).natAbs <=20*20:=by
  rw[Int.natAbs_mul];exact Nat.mul_le_mul o_ o_
 omega
theorem Qv {ax ay bx by' cx cy:Int} (ha:zh ax ay=true) (hb:zh bx by'=true) (hc:zh cx cy=true): -800<=q7 ax ay bx by' cx cy/\q7 ax ay bx by' cx cy<=800:=by
 have h1:=zD ha;have h2:=zD hb;have h3:=zD hc;have m1:=vY (u:=bx -ax) (v:=cy -ay) o_ o_ o_ o_;have m2:=vY (u:=by' -ay) (v:=cx -ax) o_ o_ o_ o_;unfold q7;omega
theorem qQ (x y:Int) (w:World):
  CB_ 195 #[.agg #[.int .i64 x,.int .i64 y]] w (.bool (zh x y)):=by
 go_enter Tryz.func195,Tryz.ntmps195
 go_wp2_with (go_at_call 138;refine(j7 _ _ _ _).mono ?_;rintro e w' ⟨rfl,rfl⟩)
 all_goals go_ret
 all_goals refine⟨z8 ?_,by exact bel_⟩
 all_goals simp_all[zh]
theorem Zv (x y:Int) (w:World):
  CB_ 211 #[.agg #[.int .i64 x,.int .i64 y]] w (.bool (zh x y)):=by
 go_enter Tryz.func211,Tryz.ntmps211
 go_wp2_with (go_at_call 78;refine(yA _ _ _ _).mono ?_;rintro e w' ⟨rfl,rfl⟩)
 all_goals go_ret
 all_goals refine⟨z8 ?_,by exact bel_⟩
 all_goals simp_all[zh]
def q8 (l:List (Int×Int)):Bool:=l.all fun p=>zh p.1 p.2
theorem xm (v:Value) (l:List (Int×Int)) (w:World) (h:RP w v l):
  CB_ 154 #[v] w (.bool (q8 l)):=by
 obtain⟨A,c,rfl,hc,hm,hcell⟩:=h.form;unfold maxLen at hm;clear h
 go_enter Tryz.func154,Tryz.ntmps154
 go_wp2
 go_loopw [7] (fun i wr=>∃k:Nat,k<=l.length/\i= .int .i64 k/\Hid (q8 (l.take k)=true)/\Below w.heap.size w wr) (fun i _=>l.length -(intOf i).toNat)
 case atStart=>exact⟨0,aab _,rfl,h_ (by simp[q8]),aaj _ _⟩
 case round=>
  obtain⟨k,hk,rfl,HT,Hb⟩:=hrel;have gx:=Hb.size
  by_cases Hf:k<l.length
  ·obtain⟨b,off,rfl,hb,Hy⟩:=hcell o_
   obtain⟨k0,k1⟩:=Hy k Hf;have q0:=(Hb.cell (p:=⟨b,off+k*2,none⟩) hb).trans k0;have q1:=(Hb.cell (p:=⟨b,off+k*2+1,none⟩) hb).trans k1;clear k0 k1 Hy hcell
   cases gV:zh l[k].1 l[k].2
   ·have Fc:=h_ gV
    have HF:Hid (q8 l=false):=h_ (by
     unfold q8;rw[List.all_eq_false];exact⟨l[k],abg Hf,by rw[gV];simp⟩)
    clear gV
    go_wp2_with fail
    refine(Zv _ _ _).mono ?_
    rintro e w1 ⟨rfl,h9⟩;rw[Fc.out];go_wp2;go_ret
    exact⟨z8 HF.out.symm,by exact bel_⟩
   ·have Fc:=h_ gV
    have HT':Hid (q8 (l.take (k+1))=true):=h_ (by
     unfold q8;rw[aax Hf,List.all_append];have:=HT.out;unfold q8 at this;rw[this];simp[gV])
    clear gV
    go_wp2_with fail
    refine(Zv _ _ _).mono ?_
    rintro e w1 ⟨rfl,h9⟩;rw[Fc.out];go_wp2;go_roundw
    case rel=>exact⟨k+1,by omega,by go_num,HT',by exact bel_⟩
    case measure=>simp[intOf];omega
  ·have gi:l.length<=k:=o_
   have h:=HT.out;rw[aaK gi] at h;have HF:=h_ h;clear h hcell;go_wp2;go_ret
   exact⟨z8 HF.out.symm,Hb⟩
theorem vx (v:Value) (ax ay bx by' cx cy:Int) (w:World) (h:RP w v [(ax,ay),(bx,by'),(cx,cy)]):
  CB_ 154 #[v] w (.bool (zh ax ay&&zh bx by'&&zh cx cy)):=
 (xm v _ w h).mono fun e w' ⟨he,hw⟩=>⟨he.trans (z8 (by simp[q8,Bool.and_assoc])),hw⟩
theorem xX (ax ay bx by' cx cy:Int) (w:World) (ha:zh ax ay=true) (hb:zh bx by'=true) (hc:zh cx cy=true):
  Calls Tryz.prog 243 #[.agg #[.int .i64 ax,.int .i64 ay],.agg #[.int .i64 bx,.int .i64 by'],.agg #[.int .i64 cx,.int .i64 cy]] w
   fun e w'=>e= .returned (.int .i64 (q7 ax ay bx by' cx cy))/\Below w.heap.size w w':=by
 have h1:=zD ha;have h2:=zD hb;have h3:=zD hc;have m1:=vY (u:=bx -ax) (v:=cy -ay) o_ o_ o_ o_;have m2:=vY (u:=by' -ay) (v:=cx -ax) o_ o_ o_ o_;clear ha hb hc
 go_enter Tryz.func243,Tryz.ntmps243
 go_wp2;go_ret
 exact⟨rfl,by exact bel_⟩
theorem xI (ax ay bx by' cx cy:Int) (w:World) (ha:zh ax ay=true) (hb:zh bx by'=true) (hc:zh cx cy=true):
  Calls Tryz.prog 214 #[.agg #[.int .i64 ax,.int .i64 ay],.agg #[.int .i64 bx,.int .i64 by'],.agg #[.int .i64 cx,.int .i64 cy]] w
   fun e w'=>e= .returned (.int .i64 (q7 ax ay bx by' cx cy))/\Below w.heap.size w w':=by
 have h1:=zD ha;have h2:=zD hb;have h3:=zD hc;have m1:=vY (u:=bx -ax) (v:=cy -ay) o_ o_ o_ o_;have m2:=vY (u:=by' -ay) (v:=cx -ax) o_ o_ o_ o_;have HN:Hid ((zh ax ay&&zh bx by'&&zh cx cy)=true):=h_ (by rw[ha,hb,hc];rfl);clear ha hb hc
 go_enter Tryz.func214,Tryz.ntmps214
 go_wp2_with fail
 refine(vx _ ax ay bx by' cx cy _ (j6 (by simp) rfl rfl rfl (by simp[maxLen]))).mono ?_
 rintro e w1 ⟨rfl,h9⟩;(have gc:=bcC h9)
 rw[HN.out];go_wp2;go_ret
 exact⟨rfl,by exact bel_⟩
abbrev Pr:=Int×Int
def jz (p:Pr):Bool:=zh p.1 p.2
def q9 (a b c:Pr):Int:=q7 a.1 a.2 b.1 b.2 c.1 c.2
def jh (a b c:Pr):Bool:=yy a.1 a.2 b.1 b.2 c.1 c.2
def qt (a b:Pr):Bool:=prB a.1 a.2 b.1 b.2
theorem yi {a b:Pr}:qt a b=true↔a=b:=vX
def ndI (ns:List Pr) (i:Int):Pr:=ns.getD i.toNat (0,0)
theorem qd (ns:List Pr) (k:Nat) (h:k<ns.length):ndI ns k=ns[k]:=by
 simp[ndI,List.getD,h]
def zv (ns:List Pr) (l:Pr):Bool:=
 decide (0<=l.1)&&decide (l.1<l.2)&&decide (l.2<ns.length)&&jz (ndI ns l.1)&&jz (ndI ns l.2)&& !(qt (ndI ns l.1) (ndI ns l.2))
theorem zZ {ns:List Pr} {l:Pr}:zv ns l=true↔0<=l.1/\l.1<l.2/\l.2<ns.length/\jz (ndI ns l.1)=true/\jz (ndI ns l.2)=true/\qt (ndI ns l.1) (ndI ns l.2)=false:=by
 simp[zv,and_assoc]
def jF (a b c d:Pr):Bool:=
 (qt a c&&qt b d||qt a d&&qt b c)||(jh a b c||jh a b d||jh c d a||jh c d b)||
  (decide (q9 a b c*q9 a b d<0)&&decide (q9 c d a*q9 c d b<0))
def qK (ns:List Pr) (l m:Pr):Bool:=zv ns l&&zv ns m&&jF (ndI ns l.1) (ndI ns l.2) (ndI ns m.1) (ndI ns m.2)
def onB (ns:List Pr) (l n:Pr):Bool:=zv ns l&&(qt n (ndI ns l.1)||qt n (ndI ns l.2)||jh (ndI ns l.1) (ndI ns l.2) n)
theorem kI (a b:Pr):qt a b=qt b a:=by
 have h:∀a b:Pr,qt a b=true->qt b a=true:=fun a b h=>yi.2 (yi.1 h).symm
 cases h1:qt a b
 ·cases h2:qt b a
  ·rfl
  ·rw[h b a h2] at h1;cases h1
 ·rw[h a b h1]
theorem kY (a b c d:Pr):jF a b c d=jF c d a b:=by
 unfold jF;rw[kI c a,kI d b,kI c b,kI d a]
 cases qt a c<;>cases qt b d<;>cases qt a d<;>cases qt b c<;>cases jh a b c<;>cases jh a b d<;>cases jh c d a<;>cases jh c d b<;>simp[Bool.and_comm]
theorem xg (ns:List Pr) (l m:Pr):qK ns l m=qK ns m l:=by
 unfold qK;rw[kY,Bool.and_comm (zv ns l)]
theorem z3C (a b:Pr):q9 a b a=0:=by simp[q9,q7]
theorem JW (a b:Pr):q9 a b b=0:=by
 unfold q9 q7;rw[Int.mul_comm];omega
theorem z9Y (x y:Int):Int.sign x*Int.sign y<0↔x*y<0:=by
 rw[<-Int.sign_mul,Int.sign_neg_iff]
def Dis (ns:List Pr) (i:Nat):Prop:=∀a b:Nat,a<b->b<i->qt (ndI ns a) (ndI ns b)=false
def CrOk (ns ls:List Pr) (l:Pr) (i:Nat):Prop:=∀j:Nat,j<i->qK ns l (ndI ls j)=false
def OnOk (ns:List Pr) (l:Pr) (i:Nat):Prop:=∀j:Nat,j<i->(j:Int)≠l.1->(j:Int)≠l.2->onB ns l (ndI ns j)=false
def LdOk (ns ls:List Pr) (k:Nat):Prop:=zv ns (ndI ls k)=true/\CrOk ns ls (ndI ls k) k/\OnOk ns (ndI ls k) ns.length
def zC (ns ls:List Pr):Prop:=
 1<=ns.length/\ns.length<=12/\ls.length<=20/\q8 ns=true/\Dis ns ns.length/\∀k:Nat,k<ls.length->LdOk ns ls k
noncomputable def winB (ns ls:List Pr):Bool:= @decide (zC ns ls) (Classical.propDecidable _)
theorem zq {ns ls:List Pr}:winB ns ls=true↔zC ns ls:=by simp[winB]
theorem jI {ns ls:List Pr}:winB ns ls=false↔¬zC ns ls:=by simp[winB]
theorem z34 {ns:List Pr} (h:q8 ns=true):∀p∈ns,jz p=true:=by
 unfold q8 at h;rw[aaL] at h;exact h
theorem jV {ns:List Pr} (h:q8 ns=true) (k:Nat) (hk:k<ns.length):jz (ndI ns k)=true:=by
 rw[qd ns k hk];exact z34 h _ (abg hk)
theorem Dis.zero (ns:List Pr):Dis ns 0:=fun a b h hb=>absurd hb o_
theorem Dis.succ {ns:List Pr} {i:Nat} (h:Dis ns i) (hi:∀a:Nat,a<i->qt (ndI ns a) (ndI ns i)=false):Dis ns (i+1):=by
 intro a b nD hb
 rcases Nat.lt_succ_iff_lt_or_eq.1 hb with h1|h1
 ·exact h a b nD h1
 ·subst h1;exact hi a nD
theorem CrOk.zero (ns ls:List Pr) (l:Pr):CrOk ns ls l 0:=fun j hj=>absurd hj o_
theorem CrOk.succ {ns ls:List Pr} {l:Pr} {i:Nat} (h:CrOk ns ls l i) (hi:qK ns l (ndI ls i)=false):CrOk ns ls l (i+1):=by
 intro j hj
 rcases Nat.lt_succ_iff_lt_or_eq.1 hj with h1|h1
 ·exact h j h1
 ·subst h1;exact hi
theorem OnOk.zero (ns:List Pr) (l:Pr):OnOk ns l 0:=fun j hj=>absurd hj o_
theorem OnOk.succ {ns:List Pr} {l:Pr} {i:Nat} (h:OnOk ns l i) (hi:(i:Int)≠l.1->(i:Int)≠l.2->onB ns l (ndI ns i)=false):OnOk ns l (i+1):=by
 intro j hj
 rcases Nat.lt_succ_iff_lt_or_eq.1 hj with h1|h1
 ·exact h j h1
 ·subst h1;exact hi
theorem RP.formI {w:World} {v:Value} {l:List (Int×Int)} (h:RP w v l):∃A c,v= .slice A l.length c/\l.length<=c/\l.length<=maxLen/\
  (0<l.length->∃b off,A=some ⟨b,off,none⟩/\b<w.heap.size/\∀k:Nat,k<l.length->w.cell? ⟨b,off+k*2,none⟩=some (.int .i64 (ndI l k).1)/\w.cell? ⟨b,off+k*2+1,none⟩=some (.int .i64 (ndI l k).2)):=by
 obtain⟨A,c,h1,h2,h3,h4⟩:=h.form;refine⟨A,c,h1,h2,h3,fun hn=>?_⟩
 obtain⟨b,off,e1,e2,e3⟩:=h4 hn;exact⟨b,off,e1,e2,fun k hk=>by rw[qd l k hk];exact e3 k hk⟩
attribute [local go_sem ↓] zr zt zR zQ
theorem QE {ax ay bx by' cx cy:Int} (h:¬(zh ax ay=true/\zh bx by'=true/\zh cx cy=true)):yy ax ay bx by' cx cy=false:=by
 unfold yy
 cases h1:zh ax ay<;>cases h2:zh bx by'<;>cases h3:zh cx cy<;>simp_all
theorem vk (ax ay bx by' cx cy:Int) (w:World):
  Calls Tryz.prog 240 #[.agg #[.int .i64 ax,.int .i64 ay],.agg #[.int .i64 bx,.int .i64 by'],.agg #[.int .i64 cx,.int .i64 cy]] w
   fun e w'=>e= .returned (.bool (yy ax ay bx by' cx cy))/\Below w.heap.size w w':=by
 cases h1:zh ax ay
 ·have HR:=h_ (QE (ax:=ax) (ay:=ay) (bx:=bx) (by':=by') (cx:=cx) (cy:=cy) (by rw[h1];simp))
  go_enter Tryz.func240,Tryz.ntmps240
  go_wp2_with fail
  refine(qQ _ _ _).mono ?_
  rintro e w1 ⟨rfl,h9⟩;rw[h1];go_wp2;go_ret
  exact⟨z8 HR.out.symm,by exact bel_⟩
 cases h2:zh bx by'
 ·have HR:=h_ (QE (ax:=ax) (ay:=ay) (bx:=bx) (by':=by') (cx:=cx) (cy:=cy) (by rw[h2];simp))
  go_enter Tryz.func240,Tryz.ntmps240
  go_wp2_with fail
  refine(qQ _ _ _).mono ?_
  rintro e w1 ⟨rfl,h9⟩;(have gc:=bcC h9);have Ht:=h9.size;(try simp at Ht)
  rw[h1]
  go_wp2_with fail
  refine(qQ _ _ _).mono ?_
  rintro e w2 ⟨rfl,Hd⟩;rw[h2];go_wp2;go_ret
  exact⟨z8 HR.out.symm,by exact bel_⟩
 cases h3:zh cx cy
 ·have HR:=h_ (QE (ax:=ax) (ay:=ay) (bx:=bx) (by':=by') (cx:=cx) (cy:=cy) (by rw[h3];simp))
  go_enter Tryz.func240,Tryz.ntmps240
  go_wp2_with fail
  refine(qQ _ _ _).mono ?_
  rintro e w1 ⟨rfl,h9⟩;(have gc:=bcC h9);have Ht:=h9.size;(try simp at Ht);(try have fi:=p2_ w w1)
  rw[h1]
  go_wp2_with fail
  refine(qQ _ _ _).mono ?_
  rintro e w2 ⟨rfl,Hd⟩;(have gE:=bcC Hd);have Gh:=Hd.size;(try simp at Gh);(try have gI:=p0_ w w2);(try have gJ:=p1_ w w2);(try have GS:=p2_ w w2)
  rw[h2]
  go_wp2_with fail
  refine(qQ _ _ _).mono ?_
  rintro e w3 ⟨rfl,He⟩;rw[h3];go_wp2;go_ret
  exact⟨z8 HR.out.symm,by exact bel_⟩
 ·have HR:Hid (yy ax ay bx by' cx cy=(!(prB ax ay bx by')&& !(prB bx by' cx cy)&& !(prB ax ay cx cy)&&(q7 ax ay bx by' cx cy==0)&&inB cx (mn2 ax bx) (mx2 ax bx)&&inB cy (mn2 ay by') (mx2 ay by'))):=h_ (by unfold yy;rw[h1,h2,h3];rfl)
  go_enter Tryz.func240,Tryz.ntmps240
  go_wp2_with fail
  refine(qQ _ _ _).mono ?_
  rintro e w1 ⟨rfl,h9⟩;(have gc:=bcC h9);have Ht:=h9.size;(try simp at Ht);(try have gF:=p0_ w w1);(try have Ge:=p1_ w w1);(try have fi:=p2_ w w1)
  rw[h1]
  go_wp2_with fail
  refine(qQ _ _ _).mono ?_
  rintro e w2 ⟨rfl,Hd⟩;(have gE:=bcC Hd);have Gh:=Hd.size;(try simp at Gh);(try have gI:=p0_ w w2);(try have gJ:=p1_ w w2);(try have GS:=p2_ w w2)
  rw[h2]
  go_wp2_with fail
  refine(qQ _ _ _).mono ?_
  rintro e w3 ⟨rfl,He⟩;(have Gy:=bcC He);have G5:=He.size;(try simp at G5);(try have Fw:=p0_ w w3);(try have Fy:=p1_ w w3);(try have ml:=p2_ w w3)
  rw[h3]
  go_wp2_with (first|(go_at_call 243;refine(xX _ _ _ _ _ _ _ h1 h2 h3).mono ?_;rintro e w4 ⟨rfl,Hw⟩;(have FG:=bcC Hw))|(go_at_call 138;refine(j7 _ _ _ _).mono ?_;rintro e w' ⟨rfl,rfl⟩))
  all_goals go_ret
  all_goals refine⟨z8 ?_,by exact bel_⟩
  all_goals rw[HR.out]
  all_goals simp_all
theorem kF (ax ay bx by' cx cy:Int) (w:World):
  Calls Tryz.prog 213 #[.agg #[.int .i64 ax,.int .i64 ay],.agg #[.int .i64 bx,.int .i64 by'],.agg #[.int .i64 cx,.int .i64 cy]] w
   fun e w'=>e= .returned (.bool (yy ax ay bx by' cx cy))/\Below w.heap.size w w':=by
 by_cases hv:zh ax ay=true/\zh bx by'=true/\zh cx cy=true
 ·obtain⟨h1,h2,h3⟩:=hv
  have HN:Hid ((zh ax ay&&zh bx by'&&zh cx cy)=true):=h_ (by rw[h1,h2,h3];rfl);have HR:Hid (yy ax ay bx by' cx cy=(!(prB ax ay bx by')&& !(prB bx by' cx cy)&& !(prB ax ay cx cy)&&(q7 ax ay bx by' cx cy==0)&&inB cx (mn2 ax bx) (mx2 ax bx)&&inB cy (mn2 ay by') (mx2 ay by'))):=h_ (by unfold yy;rw[h1,h2,h3];rfl)
  go_enter Tryz.func213,Tryz.ntmps213
  go_wp2_with fail
  refine(vx _ ax ay bx by' cx cy _ (j6 (by simp) rfl rfl rfl (by simp[maxLen]))).mono ?_
  rintro e w1 ⟨rfl,h9⟩;(have gc:=bcC h9);have Ht:=h9.size;(try simp at Ht);(try have gF:=p0_ w w1);(try have Ge:=p1_ w w1);(try have fi:=p2_ w w1)
  rw[HN.out]
  go_wp2_with (first|(go_at_call 214;refine(xI _ _ _ _ _ _ _ h1 h2 h3).mono ?_;rintro e w4 ⟨rfl,Hw⟩;(have FG:=bcC Hw))|(go_at_call 78;refine(yA _ _ _ _).mono ?_;rintro e w' ⟨rfl,rfl⟩))
  all_goals go_ret
  all_goals refine⟨z8 ?_,by exact bel_⟩
  all_goals rw[HR.out]
  all_goals simp_all
 ·have HN:Hid ((zh ax ay&&zh bx by'&&zh cx cy)=false):=h_ (by
   cases h1:zh ax ay<;>cases h2:zh bx by'<;>cases h3:zh cx cy<;>simp_all)
  have HR:=h_ (QE hv);clear hv
  go_enter Tryz.func213,Tryz.ntmps213
  go_wp2_with fail
  refine(vx _ ax ay bx by' cx cy _ (j6 (by simp) rfl rfl rfl (by simp[maxLen]))).mono ?_
  rintro e w1 ⟨rfl,h9⟩;rw[HN.out];go_wp2;go_ret
  exact⟨z8 HR.out.symm,by exact bel_⟩
structure Grw (w:World) where
 wt:World
 below:Below w.heap.size w wt
instance (w:World):Nonempty (Grw w):=⟨⟨w,aaj _ _⟩⟩
theorem Grw.cells {w:World} (n:Grw w) (b o:Nat) (h:b<w.heap.size):n.wt.cell? ⟨b,o,none⟩=w.cell? ⟨b,o,none⟩:=n.below.cell (p:=⟨b,o,none⟩) h
theorem z7 {P:Program} {id:Nat} {Q:Exit->Act->World->Prop} {a:Act} {w:World} {l:List Oper} (hm:P.follows .mixedOrders =true) (hB:Region.lexB .any l.toArray=true)
  (h:(∀(n:Grw w) (b o:Nat),b<w.heap.size->n.wt.cell? ⟨b,o,none⟩=w.cell? ⟨b,o,none⟩)->wpQuiet P l.toArray (fun w'=>∃n:Grw w,w'=n.wt) (fun a'=>∀w',(∃n:Grw w,w'=n.wt)->Q .normal a' w') l a):
  (Code.region id l.toArray true).wp P Q a w:=
 wp_region_quiet (C:=fun w'=>∃n:Grw w,w'=n.wt) hm hB ⟨⟨w.drew,(aaj _ _).drew⟩,rfl⟩ (by simpa using h (fun n=>n.cells))
theorem zI {P:Program} {W:World} {n:Grw W} {f:Nat} {args:Array Value} {v:Value} (h:Calls P f args n.wt fun e w'=>e= .returned v/\Below n.wt.heap.size n.wt w'):
  Calls P f args n.wt fun e w''=>e= .returned v/\∃m:Grw W,w''=m.wt:=
 h.mono fun e w' ⟨he,hb⟩=>⟨he,⟨w',n.below.trans (hb.mono n.below.size)⟩,rfl⟩
theorem RS.grw {W:World} (n:Grw W) {size k:Nat} {v:Value} {xs:List Value} (h:RS W size v k xs):RS n.wt size v k xs:=RS.below h n.below
theorem zY {P:Program} {W:World} {n:Grw W} {f:Nat} {args:Array Value} {v:Value} (h:Calls P f args n.wt fun e w'=>e= .returned v/\n.wt=w'):
  Calls P f args n.wt fun e w''=>e= .returned v/\∃m:Grw W,w''=m.wt:=
 h.mono fun e w' ⟨he,hb⟩=>⟨he,n,hb.symm⟩
attribute [local go_sem ↓] zr zt zR zQ
theorem z0J {w:World} {l:List (Int×Int)} {cs:Array Value} {t:TypeId} {g n c:Nat} (hg:g=w.heap.size) (fU:cs.toList=l.flatMap prc) (hn:n=l.length) (hc:c=l.length) (hm:l.length<=maxLen):
  RP (w.alloc (.cells cs t)).drew (.slice (some ⟨g,0,none⟩) n c) l:=
 RP.below (j6 hg fU hn hc hm) ((aaj _ _).drew)
theorem Zr {ns:List Pr} {a b:Int} (h:¬(0<=a/\a<b/\b<ns.length)):zv ns (a,b)=false:=by
 cases hl:zv ns (a,b)
 ·rfl
 ·obtain⟨h1,h2,h3,_⟩:=zZ.1 hl
  exact absurd ⟨h1,h2,h3⟩ h
theorem z2M {ns:List Pr} {p q:Nat} (h1:p<q) (h2:q<ns.length):zv ns (p,q)=(zh (ndI ns p).1 (ndI ns p).2&&zh (ndI ns q).1 (ndI ns q).2&& !(prB (ndI ns p).1 (ndI ns p).2 (ndI ns q).1 (ndI ns q).2)):=by
 unfold zv;have e1:decide ((0:Int)<=(p:Int))=true:=aaQ o_;have e2:decide ((p:Int)<(q:Int))=true:=aaQ o_;have e3:decide ((q:Int)<(ns.length:Int))=true:=aaQ o_;rw[e1,e2,e3];simp[jz,qt]
theorem z3r (v:Value) (ax ay bx by':Int) (w:World) (h:RP w v [(ax,ay),(bx,by')]):
  CB_ 154 #[v] w (.bool (zh ax ay&&zh bx by')):=
 (xm v _ w h).mono fun e w' ⟨he,hw⟩=>⟨he.trans (z8 (by simp[q8])),hw⟩
theorem zO (x y:Int) (b:Bool) (w:World) (h:zh x y=b):
  CB_ 195 #[.agg #[.int .i64 x,.int .i64 y]] w (.bool b):=by
 subst h;exact qQ x y w
theorem Qx (w:World) (gb off len c p q:Nat) (px py qx qy:Int) (hx:zh px py=true) (hy:zh qx qy=true) (g1:p<q) (g2:q<len) (hm:len<=2^63 -1) (fM:gb<w.heap.size)
  (k0:w.cell? ⟨gb,off+p*2,none⟩=some (.int .i64 px)) (k1:w.cell? ⟨gb,off+p*2+1,none⟩=some (.int .i64 py))
  (j0:w.cell? ⟨gb,off+q*2,none⟩=some (.int .i64 qx)) (j1:w.cell? ⟨gb,off+q*2+1,none⟩=some (.int .i64 qy)):
  CB_ 196 #[.slice (some ⟨gb,off,none⟩) len c,.agg #[.int .i64 p,.int .i64 q]] w (.bool (true&&true&& !(prB px py qx qy))):=by
 have g3:p<len:=o_
 have i1:inB (p:Int) 0 ((len:Int) -1)=true:=zf.2 o_;have i2:inB (q:Int) 0 ((len:Int) -1)=true:=zf.2 o_;have n1:gb<w.heap.size+1:=o_
 go_enter Tryz.func196,Tryz.ntmps196
 go_wp2_with (go_at_call 138;refine(j7 _ _ _ _).mono ?_;rintro e w' ⟨rfl,rfl⟩;first|rw[i1]|rw[i2])
 (refine z7 k_ k_ (fun hG=>?_))
 repeat (go_big_quiet_step (first|(go_at_call 195;exact zI (zO _ _ _ _ hx))|(go_at_call 195;exact zI (zO _ _ _ _ hy))))
 (refine wpQuiet_nil ?_);(clear hG);(rintro w1 ⟨⟨_,h9⟩,rfl⟩);(try dsimp only)
 go_wp2;go_ret
 exact⟨z8 (by simp),by exact bel_⟩
theorem Qk (w:World) (gb off len c p q:Nat) (px py qx qy:Int) (hx:zh px py=true) (hy:zh qx qy=false) (g1:p<q) (g2:q<len) (hm:len<=2^63 -1) (fM:gb<w.heap.size)
  (k0:w.cell? ⟨gb,off+p*2,none⟩=some (.int .i64 px)) (k1:w.cell? ⟨gb,off+p*2+1,none⟩=some (.int .i64 py))
  (j0:w.cell? ⟨gb,off+q*2,none⟩=some (.int .i64 qx)) (j1:w.cell? ⟨gb,off+q*2+1,none⟩=some (.int .i64 qy)):
  CB_ 196 #[.slice (some ⟨gb,off,none⟩) len c,.agg #[.int .i64 p,.int .i64 q]] w (.bool (true&&false&& !(prB px py qx qy))):=by
 have g3:p<len:=o_
 have i1:inB (p:Int) 0 ((len:Int) -1)=true:=zf.2 o_;have i2:inB (q:Int) 0 ((len:Int) -1)=true:=zf.2 o_;have n1:gb<w.heap.size+1:=o_
 go_enter Tryz.func196,Tryz.ntmps196
 go_wp2_with (go_at_call 138;refine(j7 _ _ _ _).mono ?_;rintro e w' ⟨rfl,rfl⟩;first|rw[i1]|rw[i2])
 (refine z7 k_ k_ (fun hG=>?_))
 repeat (go_big_quiet_step (first|(go_at_call 195;exact zI (zO _ _ _ _ hx))|(go_at_call 195;exact zI (zO _ _ _ _ hy))))
 (refine wpQuiet_nil ?_);(clear hG);(rintro w1 ⟨⟨_,h9⟩,rfl⟩);(try dsimp only)
 go_wp2;go_ret
 exact⟨z8 (by simp),by exact bel_⟩
theorem Qj (w:World) (gb off len c p q:Nat) (px py qx qy:Int) (hx:zh px py=false) (hy:zh qx qy=true) (g1:p<q) (g2:q<len) (hm:len<=2^63 -1) (fM:gb<w.heap.size)
  (k0:w.cell? ⟨gb,off+p*2,none⟩=some (.int .i64 px)) (k1:w.cell? ⟨gb,off+p*2+1,none⟩=some (.int .i64 py))
  (j0:w.cell? ⟨gb,off+q*2,none⟩=some (.int .i64 qx)) (j1:w.cell? ⟨gb,off+q*2+1,none⟩=some (.int .i64 qy)):
  CB_ 196 #[.slice (some ⟨gb,off,none⟩) len c,.agg #[.int .i64 p,.int .i64 q]] w (.bool (false&&true&& !(prB px py qx qy))):=by
 have g3:p<len:=o_
 have i1:inB (p:Int) 0 ((len:Int) -1)=true:=zf.2 o_;have i2:inB (q:Int) 0 ((len:Int) -1)=true:=zf.2 o_;have n1:gb<w.heap.size+1:=o_
 go_enter Tryz.func196,Tryz.ntmps196
 go_wp2_with (go_at_call 138;refine(j7 _ _ _ _).mono ?_;rintro e w' ⟨rfl,rfl⟩;first|rw[i1]|rw[i2])
 (refine z7 k_ k_ (fun hG=>?_))
 repeat (go_big_quiet_step (first|(go_at_call 195;exact zI (zO _ _ _ _ hx))|(go_at_call 195;exact zI (zO _ _ _ _ hy))))
 (refine wpQuiet_nil ?_);(clear hG);(rintro w1 ⟨⟨_,h9⟩,rfl⟩);(try dsimp only)
 go_wp2;go_ret
 exact⟨z8 (by simp),by exact bel_⟩
theorem zao (w:World) (gb off len c p q:Nat) (px py qx qy:Int) (hx:zh px py=false) (hy:zh qx qy=false) (g1:p<q) (g2:q<len) (hm:len<=2^63 -1) (fM:gb<w.heap.size)
  (k0:w.cell? ⟨gb,off+p*2,none⟩=some (.int .i64 px)) (k1:w.cell? ⟨gb,off+p*2+1,none⟩=some (.int .i64 py))
  (j0:w.cell? ⟨gb,off+q*2,none⟩=some (.int .i64 qx)) (j1:w.cell? ⟨gb,off+q*2+1,none⟩=some (.int .i64 qy)):
  CB_ 196 #[.slice (some ⟨gb,off,none⟩) len c,.agg #[.int .i64 p,.int .i64 q]] w (.bool (false&&false&& !(prB px py qx qy))):=by
 have g3:p<len:=o_
 have i1:inB (p:Int) 0 ((len:Int) -1)=true:=zf.2 o_;have i2:inB (q:Int) 0 ((len:Int) -1)=true:=zf.2 o_;have n1:gb<w.heap.size+1:=o_
 go_enter Tryz.func196,Tryz.ntmps196
 go_wp2_with (go_at_call 138;refine(j7 _ _ _ _).mono ?_;rintro e w' ⟨rfl,rfl⟩;first|rw[i1]|rw[i2])
 (refine z7 k_ k_ (fun hG=>?_))
 repeat (go_big_quiet_step (first|(go_at_call 195;exact zI (zO _ _ _ _ hx))|(go_at_call 195;exact zI (zO _ _ _ _ hy))))
 (refine wpQuiet_nil ?_);(clear hG);(rintro w1 ⟨⟨_,h9⟩,rfl⟩);(try dsimp only)
 go_wp2;go_ret
 exact⟨z8 (by simp),by exact bel_⟩
theorem jp (v:Value) (ns:List Pr) (a b:Int) (w:World) (h:RP w v ns):
  CB_ 196 #[v,.agg #[.int .i64 a,.int .i64 b]] w (.bool (zv ns (a,b))):=by
 obtain⟨A,c,rfl,hc,hm,hcell⟩:=h.formI;unfold maxLen at hm;clear h
 by_cases hv:0<=a/\a<b/\b<ns.length
 ·obtain⟨h1,h2,h3⟩:=hv
  obtain⟨p,rfl⟩:=Int.eq_ofNat_of_zero_le h1;obtain⟨q,rfl⟩:=Int.eq_ofNat_of_zero_le (show 0<=b by omega);have g1:p<q:=o_
  have g2:q<ns.length:=o_
  have g3:p<ns.length:=o_
  obtain⟨gb,off,rfl,fM,Hy⟩:=hcell o_;obtain⟨k0,k1⟩:=Hy p g3;obtain⟨j0,j1⟩:=Hy q g2;rw[z2M g1 g2]
  cases hx:zh (ndI ns p).1 (ndI ns p).2<;>cases hy:zh (ndI ns q).1 (ndI ns q).2
  ·exact zao w gb off _ c p q _ _ _ _ hx hy g1 g2 hm fM k0 k1 j0 j1
  ·exact Qj w gb off _ c p q _ _ _ _ hx hy g1 g2 hm fM k0 k1 j0 j1
  ·exact Qk w gb off _ c p q _ _ _ _ hx hy g1 g2 hm fM k0 k1 j0 j1
  ·exact Qx w gb off _ c p q _ _ _ _ hx hy g1 g2 hm fM k0 k1 j0 j1
 ·have HR:=h_ (Zr hv)
  have HV:=h_ hv;clear hcell hv
  go_enter Tryz.func196,Tryz.ntmps196
  go_wp2_with (go_at_call 138;refine(j7 _ _ _ _).mono ?_;rintro e w' ⟨rfl,rfl⟩)
  all_goals first|(go_ret;exact⟨z8 HR.out.symm,by exact bel_⟩)|(exfalso;refine HV.out ?_;simp_all[inB];omega)
theorem z7K (w:World) (gb off len c p q:Nat) (px py qx qy:Int) (hx:(zh px py&&zh qx qy)=true) (g1:p<q) (g2:q<len) (hm:len<=2^63 -1) (fM:gb<w.heap.size)
  (k0:w.cell? ⟨gb,off+p*2,none⟩=some (.int .i64 px)) (k1:w.cell? ⟨gb,off+p*2+1,none⟩=some (.int .i64 py))
  (j0:w.cell? ⟨gb,off+q*2,none⟩=some (.int .i64 qx)) (j1:w.cell? ⟨gb,off+q*2+1,none⟩=some (.int .i64 qy)):
  CB_ 156 #[.slice (some ⟨gb,off,none⟩) len c,.agg #[.int .i64 p,.int .i64 q]] w (.bool (!(prB px py qx qy))):=by
 have g3:p<len:=o_
 have g4:(0:Int)<=(p:Int):=o_
 have g5:(p:Int)<(q:Int):=o_
 have g6:(q:Int)<(len:Int):=o_
 have n2:gb<w.heap.size+1+1:=o_
 have n3:w.heap.size<w.heap.size+1+1:=o_
 go_enter Tryz.func156,Tryz.ntmps156
 go_wp2_with fail
 (go_region_held3 (fun w'=>w'.cell? ⟨w.heap.size,0,none⟩=some (.int .i64 p)/\w'.cell? ⟨w.heap.size,1,none⟩=some (.int .i64 q)/\w'.cell? ⟨gb,off+p*2,none⟩=some (.int .i64 px)/\w'.cell? ⟨gb,off+p*2+1,none⟩=some (.int .i64 py)/\w'.cell? ⟨gb,off+q*2,none⟩=some (.int .i64 qx)/\w'.cell? ⟨gb,off+q*2+1,none⟩=some (.int .i64 qy))
   (go_keep)
   (first|(go_at_call 154;refine(z3r _ px py qx qy _ (z0J (by simp) rfl rfl rfl (by simp[maxLen]))).mono ?_;rw[hx];rintro e w1 ⟨rfl,h9⟩;(have gc:=bdC h9))))
 go_wp2;go_ret
 exact⟨z8 (by simp),by exact bel_⟩
theorem jr (v:Value) (ns:List Pr) (a b:Int) (w:World) (h:RP w v ns) (gV:q8 ns=true):
  CB_ 156 #[v,.agg #[.int .i64 a,.int .i64 b]] w (.bool (zv ns (a,b))):=by
 obtain⟨A,c,rfl,hc,hm,hcell⟩:=h.formI;unfold maxLen at hm;clear h
 by_cases hv:0<=a/\a<b/\b<ns.length
 ·obtain⟨h1,h2,h3⟩:=hv
  obtain⟨p,rfl⟩:=Int.eq_ofNat_of_zero_le h1;obtain⟨q,rfl⟩:=Int.eq_ofNat_of_zero_le (show 0<=b by omega);have g1:p<q:=o_
  have g2:q<ns.length:=o_
  have g3:p<ns.length:=o_
  obtain⟨gb,off,rfl,fM,Hy⟩:=hcell o_;obtain⟨k0,k1⟩:=Hy p g3;obtain⟨j0,j1⟩:=Hy q g2;have hp:=jV gV p g3;have hq:=jV gV q g2;rw[z2M g1 g2];unfold jz at hp hq;rw[hp,hq];exact z7K w gb off _ c p q _ _ _ _ (by rw[hp,hq];rfl) g1 g2 hm fM k0 k1 j0 j1
 ·have HR:=h_ (Zr hv)
  clear hcell
  go_enter Tryz.func156,Tryz.ntmps156
  go_wp2_with fail
  by_cases c1:0<=a
  ·by_cases c2:a<b
   ·have c3:¬b<ns.length:=fun c3=>hv ⟨c1,c2,c3⟩
    clear hv
    go_quiet (fail)
    go_wp2;go_ret
    exact⟨z8 HR.out.symm,by exact bel_⟩
   ·clear hv
    go_quiet (fail)
    go_wp2;go_ret
    exact⟨z8 HR.out.symm,by exact bel_⟩
  ·clear hv
   go_quiet (fail)
   go_wp2;go_ret
   exact⟨z8 HR.out.symm,by exact bel_⟩
section
variable {P:Program} {md:Region.Mode} {ops:Array Oper} {Q:Exit->Act->World->Prop} {S:World->Prop}
def anyD (P:Program) (md:Region.Mode) (ops:Array Oper) (Q:Exit->Act->World->Prop) (S:World->Prop) (n:Nat):Nat->Array Bool->Act->World->Prop
 |0,listed,a,w=>Region.ready md ops listed=[]/\Q .normal a w
 |fuel+1,listed,a,w=>
  (Region.ready md ops listed=[]->Q .normal a w)/\
  ∀i∈Region.ready md ops listed,wpOp P ops Q i (fun a' w'=>(i≠n->S w')/\anyD P md ops Q S n fuel (listed.setIfInBounds i true) a' w') a w
theorem z2k {n:Nat}:∀(fuel:Nat) (listed:Array Bool) (a:Act) (w:World),anyD P md ops Q S n fuel listed a w->wpAny P md ops Q fuel listed a w
 |0,_,_,_,h=>h
 |fuel+1,_,_,_,h=>⟨h.1,fun i hi=>wpOp_mono (fun a' w' h'=>z2k fuel _ a' w' h'.2) (h.2 i hi)⟩
theorem z8a {n i:Nat} {oi on:Oper} {v:Value} (hi:ops[i]? =some oi) (cU:ops[n]? =some on) (fD:∃e∈on.after,Region.binds md e=true/\e.on=i) (bo:∀(j:Nat) (o:Oper) cs b,ops[j]? =some o->o.op≠ .select cs b)
  (hQ:∀c a w,Q (.panic c) (a.put oi.dst v) w->Q (.panic c) a w):
  ∀(fuel:Nat) (listed:Array Bool) (a:Act) (w:World),
   (∀j oj,ops[j]? =some oj->j≠i->listed.getD j true=false->(∀e∈oj.after,Region.binds md e=true->e.on≠i)->oi.apart ops oj=true)->
   i∈Region.ready md ops listed->YieldsIf P ops S oi v a->S w->
   anyD P md ops Q S n fuel (listed.setIfInBounds i true) (a.put oi.dst v) w->anyD P md ops Q S n (fuel+1) listed a w:=by
 intro fuel
 induction fuel with
 |zero=>
  intro listed a w _ hr hy hS H;refine⟨fun h=>(by rw[h] at hr;cases hr),fun j hj=>?_⟩
  by_cases FT:j=i
  ·subst FT
   exact hy.wpOp hi hS ⟨fun _=>hS,H⟩
  ·have:=ready_mono hj FT
   rw[H.1] at this
   cases this
 |succ fuel ih=>
  intro listed a w FU hr hy hS H;refine⟨fun h=>(by rw[h] at hr;cases hr),fun j hj=>?_⟩
  by_cases FT:j=i
  ·subst FT
   exact hy.wpOp hi hS ⟨fun _=>hS,H⟩
  ·have h1:=H.2 j (ready_mono hj FT)
   obtain⟨br,oj,BA,GJ⟩:=mem_ready.1 hj
   have BC:∀e∈oj.after,Region.binds md e=true->e.on≠i:=fun e he hb Fz=>by
    have g1:=GJ e he hb;have g0:=(mem_ready.1 hr).1;rw[Fz] at g1
    rcases abj i listed.size with h'|h'
    ·simp[h'] at g0 g1;rw[g0] at g1;cases g1
    ·simp[abw h'] at g1
   have Ur:j≠n:=by
    rintro rfl;rw[cU] at BA
    cases BA
    obtain⟨e,he,hb,Fz⟩:=fD;exact BC e he hb Fz
   have h2:=wpOp_putIf BA (FU j oj BA FT br BC) (fun cs b=>bo i oi cs b hi) (fun cs b=>bo j oj cs b BA) hQ hy h1
   have cr:∀k ok,ops[k]? =some ok->k≠i->(listed.setIfInBounds j true).getD k true=false->
     (∀e∈ok.after,Region.binds md e=true->e.on≠i)->oi.apart ops ok=true:=fun k ok hk rX GK G6=>by
    refine FU k ok hk rX ?_ G6
    by_cases FH:j=k
    ·subst FH;exact br
    ·rw[getD_set_ne true FH] at GK;exact GK
   refine wpOp_mono (fun a' w' h3=>⟨fun _=>h3.2.1 Ur,ih (listed.setIfInBounds j true) a' w' cr (ready_mono hr (Ne.symm FT)) h3.1 (h3.2.1 Ur) ?_⟩) h2
   rw[Array.setIfInBounds_comm _ _ FT];exact h3.2.2
theorem ql {i:Nat} {o:Oper} (h:(ops.toList.drop i).head? =some o):ops[i]? =some o:=by
 rw[List.head?_drop,Array.getElem?_toList] at h;exact h
theorem zw {n i:Nat} {oi on:Oper} {v:Value} {fuel:Nat} {listed:Array Bool} {a:Act} {w:World} (Fs:(ops.toList.drop i).head? =some oi) (Mp:(ops.toList.drop n).head? =some on) (fD:(on.after.any fun e=>Region.binds md e&&e.on==i)=true)
  (hs:Region.noSelect ops=true) (hf:Region.free md ops listed i=true) (hr:(Region.ready md ops listed).contains i=true)
  (hQ:∀c a w,Q (.panic c) (a.put oi.dst v) w->Q (.panic c) a w) (hy:YieldsIf P ops S oi v a) (hS:S w)
  (h:anyD P md ops Q S n fuel (listed.setIfInBounds i true) (a.put oi.dst v) w):anyD P md ops Q S n (fuel+1) listed a w:=by
 have hi:=ql Fs;have cU:=ql Mp;refine z8a hi cU ?_ (Region.noSelect_spec hs) hQ fuel listed a w (Region.free_spec hi hf) (by simpa using hr) hy hS h
 rw[Array.any_eq_true] at fD;obtain⟨k,hk,h⟩:=fD;rw[aaG] at h;exact⟨on.after[k],Array.getElem_mem hk,h.1,by simpa using h.2⟩
theorem qM {n i:Nat} {o:Oper} {fuel:Nat} {listed:Array Bool} {a:Act} {w:World} (FA:(ops.toList.drop i).head? =some o) (hr:Region.ready md ops listed=[i])
  (h:∀K':Act->World->Prop,(∀a w,(i≠n->S w)->((i≠n->S w)->anyD P md ops Q S n fuel (listed.setIfInBounds i true) a w)->K' a w)->if Region.wanted o (yielded ops a.tmps)=true then Oper.wp P o a w K' Q else K' (a.put o.dst undef) w):
  anyD P md ops Q S n (fuel+1) listed a w:=by
 have ho:=ql FA;refine⟨fun h0=>(by rw[hr] at h0;cases h0),fun j hj=>?_⟩
 rw[hr,aa9] at hj;subst hj;exact wpOp_step ho (fun K' hK=>h K' (fun a w hS hW=>hK a w ⟨hS,hW hS⟩))
theorem z8f {n i j:Nat} {o1 o2:Oper} {fuel:Nat} {listed:Array Bool} {a:Act} {w:World} (Hi:(ops.toList.drop i).head? =some o1) (Hk:(ops.toList.drop j).head? =some o2) (hr:Region.ready md ops listed=[i,j])
  (h1:∀K':Act->World->Prop,(∀a w,(i≠n->S w)->((i≠n->S w)->anyD P md ops Q S n fuel (listed.setIfInBounds i true) a w)->K' a w)->if Region.wanted o1 (yielded ops a.tmps)=true then Oper.wp P o1 a w K' Q else K' (a.put o1.dst undef) w)
  (h2:∀K':Act->World->Prop,(∀a w,(j≠n->S w)->((j≠n->S w)->anyD P md ops Q S n fuel (listed.setIfInBounds j true) a w)->K' a w)->if Region.wanted o2 (yielded ops a.tmps)=true then Oper.wp P o2 a w K' Q else K' (a.put o2.dst undef) w):
  anyD P md ops Q S n (fuel+1) listed a w:=by
 refine⟨fun h0=>(by rw[hr] at h0;cases h0),fun k hk=>?_⟩
 rw[hr] at hk;simp only[List.mem_cons,List.mem_nil_iff,or_false] at hk
 rcases hk with rfl|rfl
 ·exact wpOp_step (ql Hi) (fun K' hK=>h1 K' (fun a w hS hW=>hK a w ⟨hS,hW hS⟩))
 ·exact wpOp_step (ql Hk) (fun K' hK=>h2 K' (fun a w hS hW=>hK a w ⟨hS,hW hS⟩))
theorem kX {n:Nat} {listed:Array Bool} {a:Act} {w:World} (hr:Region.ready md ops listed=[]) (h:Q .normal a w):∀fuel,anyD P md ops Q S n fuel listed a w
 |0=>⟨hr,h⟩
 |_+1=>⟨fun _=>h,by rw[hr];simp⟩
theorem vE {id n:Nat} {a:Act} {w:World} (hm:P.follows .mixedOrders =true) (hS:S w.drew)
  (h:S w.drew->anyD P .any ops Q S n ops.size (Array.replicate ops.size false) a w.drew):(Code.region id ops true).wp P Q a w:=
 wp_region_any hm (z2k _ _ _ _ (h hS))
end
def okC (adj:Nat->Nat->Bool) (hd:List Int) (k:Nat) (x:Int):Bool:=(List.range k).all (fun i=> !(adj i k&&(hd.getD i 0==x)))
def ZX (gv:List Int) (k:Nat) (x:Int):Bool:=decide (gv.getD k 0<0)||(gv.getD k 0==x)
def srch (adj:Nat->Nat->Bool) (gv:List Int) (n:Nat):Nat->List Int->Option (List Int)
 |0,hd=>some hd
 |r+1,hd=>(List.range n).findSome? (fun (x:Nat)=>if ZX gv hd.length x&&okC adj hd hd.length x then srch adj gv n r (hd++[(x:Int)]) else none)
theorem z0K {adj:Nat->Nat->Bool} {hd:List Int} {k:Nat} {x:Int}:okC adj hd k x=true↔∀i,i<k->adj i k=true->hd.getD i 0≠x:=by
 unfold okC;rw[aaL]
 constructor
 ·intro h i hi ha hx
  have:=h i (List.mem_range.2 hi);rw[ha,hx] at this;simp at this
 ·intro h i hi
  have:=h i (List.mem_range.1 hi)
  cases ha:adj i k
  ·rfl
  ·have h2:=this ha
   simp only[aaR,Bool.not_eq_true']
   exact beq_eq_false_iff_ne.2 h2
theorem Xy {adj:Nat->Nat->Bool} {gv:List Int} {n:Nat}:∀(r:Nat) (hd L:List Int),srch adj gv n r hd=some L->(∀j,j<hd.length->0<=hd.getD j 0/\hd.getD j 0<n)->(∀j,j<hd.length->okC adj hd j (hd.getD j 0)=true)->
  L.length=hd.length+r/\(∀j,j<hd.length->L.getD j 0=hd.getD j 0)/\(∀j,j<L.length->0<=L.getD j 0/\L.getD j 0<n)/\(∀i j,i<j->j<L.length->adj i j=true->L.getD i 0≠L.getD j 0)
 |0,hd,L,h,hb,hp=>by
  simp only[srch,Option.some.injEq] at h
  subst h;exact⟨rfl,fun _ _=>rfl,hb,fun i j m5 hj ha=>z0K.1 (hp j hj) i m5 ha⟩
 |r+1,hd,L,h,hb,hp=>by
  rw[srch] at h;obtain⟨x,hx,hf⟩:=List.exists_of_findSome?_eq_some h;rw[aaM] at hx
  split at hf
  ·rename_i hc
   rw[aaG] at hc
   have CD:∀j,j<hd.length->(hd++[(x:Int)]).getD j 0=hd.getD j 0:=by
    intro j hj;simp[List.getD,abc hj]
   have fj:(hd++[(x:Int)]).getD hd.length 0=x:=by simp[List.getD]
   have gV:∀j y,j<=hd.length->(okC adj (hd++[(x:Int)]) j y=true↔okC adj hd j y=true):=by
    intro j y hj;rw[z0K,z0K]
    constructor
    ·intro h i hi ha
     rw[<-CD i o_];exact h i hi ha
    ·intro h i hi ha
     rw[CD i o_];exact h i hi ha
   obtain⟨e1,e2,e3,e4⟩:=Xy r (hd++[(x:Int)]) L hf (fun j hj=>by
    rw[aaW,aa8] at hj
    by_cases FX:j<hd.length
    ·rw[CD j FX];exact hb j FX
    ·have:j=hd.length:=o_
     subst this;rw[fj];omega) (fun j hj=>by
    rw[aaW,aa8] at hj;rw[gV j _ o_]
    by_cases FX:j<hd.length
    ·rw[CD j FX];exact hp j FX
    ·have:j=hd.length:=o_
     subst this;rw[fj];exact hc.2)
   rw[aaW,aa8] at e1;refine⟨by omega,fun j hj=>?_,e3,e4⟩
   rw[e2 j (by simp;omega),CD j hj]
  ·cases hf
theorem z52 {k:Nat} {x:Int} {F:Nat} (h:k<F):ZX (List.replicate F (-1)) k x=true:=by
 unfold ZX;have:(List.replicate F (-1:Int)).getD k 0= -1:=by simp[List.getD,h]
 rw[this];rfl
end Go.Proofs.YtnjcpljhmhdhkaaGreat
