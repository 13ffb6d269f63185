/-
  A region that draws its order, whose callees leave what was there alone but may lay new memory: walked once.
-/
import Derived.Test.YtbennlajjfkdpaaDoorBase
import Derived.BigQuiet
set_option linter.unusedSimpArgs false
set_option linter.unusedVariables false
namespace Go.Proofs.YtbennlajjfkdpaaDoor
open Go.RowKit

/-- A world behind w that leaves alone what was there. -/
structure Grw (w : World) where
  to : World
  below : Below w.heap.size w to

instance (w : World) : Nonempty (Grw w) := ⟨⟨w, Below.refl _ _⟩⟩

theorem Grw.cells {w : World} (n : Grw w) (b o : Nat) (h : b < w.heap.size) : n.to.cell? ⟨b, o, none⟩ = w.cell? ⟨b, o, none⟩ := n.below.cell (p := ⟨b, o, none⟩) h

theorem wp_region_quietG {P : Program} {id : Nat} {Q : Exit → Act → World → Prop} {a : Act} {w : World} {l : List Oper} (hm : P.follows .mixedOrders = true) (hB : Region.lexB .any l.toArray = true)
    (h : (∀ (n : Grw w) (b o : Nat), b < w.heap.size → n.to.cell? ⟨b, o, none⟩ = w.cell? ⟨b, o, none⟩) → wpQuiet P l.toArray (fun w' => ∃ n : Grw w, w' = n.to) (fun a' => ∀ w', (∃ n : Grw w, w' = n.to) → Q .normal a' w') l a) :
    (Code.region id l.toArray true).wp P Q a w :=
  wp_region_quiet (C := fun w' => ∃ n : Grw w, w' = n.to) hm hB ⟨⟨w.drew, (Below.refl _ _).drew⟩, rfl⟩ (by simpa using h (fun n => n.cells))

theorem quietG {P : Program} {W : World} {n : Grw W} {f : Nat} {args : Array Value} {v : Value} (h : Calls P f args n.to fun e w' => e = .returned v ∧ Below n.to.heap.size n.to w') :
    Calls P f args n.to fun e w'' => e = .returned v ∧ ∃ m : Grw W, w'' = m.to :=
  h.mono fun e w' ⟨he, hb⟩ => ⟨he, ⟨w', n.below.trans (hb.mono n.below.size)⟩, rfl⟩

theorem RS.grw {W : World} (n : Grw W) {size k : Nat} {v : Value} {xs : List Value} (h : RS W size v k xs) : RS n.to size v k xs := RS.below h n.below

theorem quietS {P : Program} {W : World} {n : Grw W} {f : Nat} {args : Array Value} {v : Value} (h : Calls P f args n.to fun e w' => e = .returned v ∧ n.to = w') :
    Calls P f args n.to fun e w'' => e = .returned v ∧ ∃ m : Grw W, w'' = m.to :=
  h.mono fun e w' ⟨he, hb⟩ => ⟨he, n, hb.symm⟩

end Go.Proofs.YtbennlajjfkdpaaDoor
