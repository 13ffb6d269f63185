/- part 1 -/
import Derived.Test.YtnjcpljhmhdhkaaGreatTPk0
import Derived.Test.YtnjcpljhmhdhkaaGreatProg
import Derived.OwnWalk
import Derived.Maps.AppendAt
import Derived.Deep.QuietTactic
import Derived.BigQuiet
set_option linter.unusedSimpArgs false
set_option linter.unusedVariables false
namespace Go.Proofs.YtnjcpljhmhdhkaaGreat
open Go.RowKit
theorem qq:(Tryz.prog.info? 3).map (fun i=>(i.zero,i.size,i.bytes))=some (some (.int .i64 0),1,8):=by kernel_rfl
def OwnI (base:Nat) (w:World) (v:Value) (zs:List Int):Prop:=w.ownsRow base 3 1 v zs.length (zs.map vI)
theorem OwnI.nil (base:Nat) (w:World):OwnI base w (.slice none 0 0) []:=World.ownsRow_nil _ _ _ _
theorem OwnI.alloc {base:Nat} {w:World} {v:Value} {zs:List Int} (h:OwnI base w v zs) (o:Obj):OwnI base (w.alloc o) v zs:=World.ownsRow.alloc h o
theorem OwnI.kept {base:Nat} {w w':World} {v:Value} {zs:List Int} (h:OwnI base w v zs) (hb:Below w.heap.size w w'):OwnI base w' v zs:=by
 refine World.ownsRow.kept (row:=none) h ⟨hb.os,hb.tape,hb.output,hb.size,fun k hk _=>hb.block k hk⟩ ?_
 cases hv:v.ownBlock with
 |none=>exact .inl rfl
 |some k=>exact .inr (by simp)
theorem OwnI.mono {base base':Nat} {w:World} {v:Value} {zs:List Int} (h:OwnI base w v zs) (hb:base'<=base):OwnI base' w v zs:=by
 obtain⟨h1,h2⟩:=h;refine⟨h1,?_⟩
 rcases h2 with h2|⟨g,cap,cur,e1,e2,e3⟩
 ·exact .inl h2
 ·exact .inr ⟨g,cap,cur,e1,aai hb e2,e3⟩
theorem OwnI.lt {base:Nat} {w:World} {v:Value} {zs:List Int} (h:OwnI base w v zs):∀k,v.ownBlock=some k->base<=k/\k<w.heap.size:=World.ownsRow.lt h
theorem OwnI.reads {base:Nat} {w:World} {v:Value} {zs:List Int} (h:OwnI base w v zs):RI w v zs:=by
 obtain⟨h1,h2⟩:=h;refine⟨h1,?_⟩
 rcases h2 with ⟨rfl,hn⟩|⟨g,cap,cur,rfl,_,hh,bO,mh,gI,Cx⟩
 ·exact⟨none,0,by rw[hn],by omega,by rw[hn];simp[maxLen],fun hp=>absurd hp o_⟩
 ·refine⟨_,cap,rfl,bO,by omega,fun hp=>⟨g,0,rfl,?_,fun j u hu=>?_⟩⟩
  ·rcases abj g w.heap.size with Hf|Mu
   ·exact Hf
   ·rw[abw Mu] at hh;cases hh
  ·rw[aaF,cell_of_row _ _ _ cur 3 (0,0) hh]
   rw[<-Cx] at hu;rw[List.getElem?_take] at hu
   split at hu
   ·simpa using hu
   ·cases hu
theorem OwnI.snoc {base:Nat} {w:World} {v:Value} {zs:List Int} {x:Int} (h:w.ownsRow base 3 1 v (zs.length+1) (zs.map vI++[.int .i64 x])):OwnI base w v (zs++[x]):=by
 unfold OwnI;rw[aaW,aaz];exact h
def RetI (zs:List Int) (w:World) (e:Ending) (w':World):Prop:=∃v,e= .returned v/\OwnI w.heap.size w' v zs/\Below w.heap.size w w'
theorem vB {α:Type} [DecidableEq α] {l r:List α} {k:Nat} (h:l.take k=r.take k) (hl:k<l.length) (hr:k<r.length) (he:l[k]=r[k]):l.take (k+1)=r.take (k+1):=by
 rw[aax hl,aax hr,h,he]
theorem zb {a b c:World} {row:Option Nat} (h:a.grownBy b row) (k:b.grownBy c row):a.grownBy c row:=World.grownBy.trans h k
theorem k7 {a w:World} {g:Nat} (h:a.grownBy w (some g)) (j:Nat) (u:Value):a.grownBy (w.setCell ⟨g,j,none⟩ u) (some g):=
 ⟨h.os,h.tape,h.output,by simpa[World.setCell] using h.size,fun i hi Hv=>(Below.heap_setCell w ⟨g,j,none⟩ u i (fun e=>Hv (by rw[e]))).trans (h.block i hi Hv)⟩
end Go.Proofs.YtnjcpljhmhdhkaaGreat
