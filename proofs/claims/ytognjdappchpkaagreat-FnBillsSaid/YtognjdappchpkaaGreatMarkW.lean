/-
  A window marked with running numbers, and found marked.
-/
import Derived.Test.YtognjdappchpkaaGreatWin
import Derived.Test.YtognjdappchpkaaGreatMarkP
set_option linter.unusedSimpArgs false
set_option linter.unusedVariables false
namespace Go.Proofs.YtognjdappchpkaaGreat
open Go.RowKit

theorem Blk.turned {w w' : World} {g : Nat} {t : TypeId} {cs : Array Value} {S : Nat → Prop} (h : Blk w g t cs) (hb : Turns S w w') (hn : ¬ S g) : Blk w' g t cs := (hb.block g h.lt hn).trans h

/-- The blocks of a window. -/
def blksW (vn vl : Value) (k : Nat) : Prop := vn.ownBlock = some k ∨ vl.ownBlock = some k

theorem OwnW.turned {base : Nat} {w w' : World} {vn vl : Value} {ns ls : List (Int × Int)} {S : Nat → Prop} (h : OwnW base w vn vl ns ls) (hb : Turns S w w') (hs : ∀ k, blksW vn vl k → ¬ S k) : OwnW base w' vn vl ns ls :=
  ⟨h.1.turned hb (fun k hk => hs k (.inl hk)), h.2.1.turned hb (fun k hk => hs k (.inr hk)), h.2.2⟩

theorem OwnW.lt {base : Nat} {w : World} {vn vl : Value} {ns ls : List (Int × Int)} (h : OwnW base w vn vl ns ls) (k : Nat) (hk : blksW vn vl k) : base ≤ k ∧ k < w.heap.size := by
  rcases hk with hk | hk
  · exact h.1.lt k hk
  · exact h.2.1.lt k hk





end Go.Proofs.YtognjdappchpkaaGreat
