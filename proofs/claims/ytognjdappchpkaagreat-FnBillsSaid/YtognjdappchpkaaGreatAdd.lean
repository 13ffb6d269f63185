/-
  A lead added: both sides walked.
-/
import Derived.Test.YtognjdappchpkaaGreatCpy
import Derived.Test.YtognjdappchpkaaGreatMarkW
import Derived.Test.YtognjdappchpkaaGreatDeg
set_option linter.unusedSimpArgs false
set_option linter.unusedVariables false
namespace Go.Proofs.YtognjdappchpkaaGreat
open Go.RowKit

attribute [local go_sem ↓] run_eqNode run_neNode run_mn2 run_mx2

/-- A call returns a window in new memory and a bool. -/
def RetWB (ns ls : List (Int × Int)) (b : Bool) (w : World) (e : Ending) (w' : World) : Prop := ∃ An cn Al cl, e = .returned (.tuple #[.agg #[.slice An ns.length cn, .slice Al ls.length cl], .bool b]) ∧
  OwnW w.heap.size w' (.slice An ns.length cn) (.slice Al ls.length cl) ns ls ∧ Below w.heap.size w w'

theorem Blk.grownR {w w' : World} {b : Nat} {t : TypeId} {cs : Array Value} {row : Option Nat} (h : Blk w b t cs) (hg : w.grownBy w' row) (hr : ∀ k, row = some k → ¬ k = b) : Blk w' b t cs :=
  (hg.block b h.lt (fun e => hr b e.symm rfl)).trans h

theorem OwnW.far {base : Nat} {w w' : World} {vn vl : Value} {ns ls : List (Int × Int)} {row : Option Nat} (h : OwnW base w vn vl ns ls) (hg : w.grownBy w' row) (hr : ∀ k, row = some k → k < base) : OwnW base w' vn vl ns ls :=
  ⟨h.1.far hg hr, h.2.1.far hg hr, h.2.2⟩
theorem OwnW.apart {base : Nat} {w w' : World} {vn vl : Value} {ns ls : List (Int × Int)} {row : Option Nat} (h : OwnW base w vn vl ns ls) (hg : w.grownBy w' row) (hr : ∀ k, blksW vn vl k → row = some k → False) : OwnW base w' vn vl ns ls :=
  ⟨h.1.apart hg (fun k hk => hr k (.inl hk)), h.2.1.apart hg (fun k hk => hr k (.inr hk)), h.2.2⟩
theorem OwnW.setLow {base : Nat} {w : World} {vn vl : Value} {ns ls : List (Int × Int)} (h : OwnW base w vn vl ns ls) {p : Addr} (hp : p.block < base) (u : Value) : OwnW base (w.setCell p u) vn vl ns ls :=
  ⟨h.1.setLow hp u, h.2.1.setLow hp u, h.2.2⟩
theorem OwnW.alloc {base : Nat} {w : World} {vn vl : Value} {ns ls : List (Int × Int)} (h : OwnW base w vn vl ns ls) (o : Obj) : OwnW base (w.alloc o) vn vl ns ls := ⟨h.1.alloc o, h.2.1.alloc o, h.2.2⟩
/-- A store into a block that is not the window's. -/
theorem OwnW.setFar {base : Nat} {w : World} {vn vl : Value} {ns ls : List (Int × Int)} (h : OwnW base w vn vl ns ls) {p : Addr} (hp : ¬ blksW vn vl p.block) (u : Value) : OwnW base (w.setCell p u) vn vl ns ls :=
  h.apart (set_grown w p u) (fun k hk e => by cases e; exact hp hk)

theorem RetWB.mk {ns ls : List (Int × Int)} {b : Bool} {w w' : World} {e : Ending} {An Al : Option Addr} {n m cn cl : Nat} (he : e = .returned (.tuple #[.agg #[.slice An n cn, .slice Al m cl], .bool b])) (hn : n = ns.length) (hm : m = ls.length)
    (ho : OwnW w.heap.size w' (.slice An n cn) (.slice Al m cl) ns ls) (hb : Below w.heap.size w w') : RetWB ns ls b w e w' := by
  subst hn hm
  exact ⟨_, _, _, _, he, ho, hb⟩

/-- The leads behind an added one. -/
noncomputable def addB (ns ls : List Pr) (a b : Int) : Bool := winB ns ls && winB ns (ls ++ [(mn2 a b, mx2 a b)])
noncomputable def addL (ns ls : List Pr) (a b : Int) : List Pr := if addB ns ls a b then ls ++ [(mn2 a b, mx2 a b)] else ls



theorem own_new {A : Option Addr} {n c : Nat} {v : Value} {h : Nat} (e : (Value.slice A n c).ownBlock = v.ownBlock ∨ (Value.slice A n c).ownBlock = some h) {k : Nat} (hk : (Value.slice A n c).ownBlock = some k) : v.ownBlock = some k ∨ k = h := by
  rcases e with e | e
  · exact .inl (e.symm.trans hk)
  · exact .inr (by have := e.symm.trans hk; cases this; rfl)





end Go.Proofs.YtognjdappchpkaaGreat
