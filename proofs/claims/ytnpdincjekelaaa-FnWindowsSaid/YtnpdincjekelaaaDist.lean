/-
  The distance of two recipes.
-/
import Derived.Test.YtnpdincjekelaaaRec
import Derived.Deep.RegionHeld3
set_option linter.unusedSimpArgs false
set_option linter.unusedVariables false
namespace Go.Proofs.Ytnpdincjekelaaa
open Go.RowKit





theorem dist_no1 {a b c d a' b' c' d' : Int} (h : recipeB a b c d = false) : distB a b c d a' b' c' d' = -1 := by simp [distB, h]

theorem dist_no2 {a b c d a' b' c' d' : Int} (h : recipeB a' b' c' d' = false) : distB a b c d a' b' c' d' = -1 := by simp [distB, h]

theorem dist_yes {a b c d a' b' c' d' : Int} (h : recipeB a b c d = true) (h' : recipeB a' b' c' d' = true) :
    distB a b c d a' b' c' d' = ((a - a').natAbs : Int) + ((b - b').natAbs : Int) + ((c - c').natAbs : Int) + ((d - d').natAbs : Int) := by simp [distB, h, h']






theorem keepCell {w' w1 : World} (hb : Below w'.heap.size w' w1) {g o : Nat} {v : Value} (hg : g < w'.heap.size) (h : w'.cell? ⟨g, o, none⟩ = some v) : w1.cell? ⟨g, o, none⟩ = some v :=
  (hb.cell (p := ⟨g, o, none⟩) hg).trans h



end Go.Proofs.Ytnpdincjekelaaa
