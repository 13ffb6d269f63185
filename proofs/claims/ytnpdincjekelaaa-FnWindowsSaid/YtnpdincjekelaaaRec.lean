/-
  Recipes: the tests, the distance, and the conversions.
-/
import Derived.Test.YtnpdincjekelaaaSmall
import Derived.Deep.QuietTactic
import Derived.BigQuiet
set_option linter.unusedSimpArgs false
set_option linter.unusedVariables false
namespace Go.Proofs.Ytnpdincjekelaaa
open Go.RowKit

def recipeB (a b c d : Int) : Bool := inB a 0 1000 && inB b 0 1000 && inB c 0 1000 && inB d 0 1000 && (a + b + c + d == 1000)

theorem recipeB_bd {a b c d : Int} (h : recipeB a b c d = true) : (0 ≤ a ∧ a ≤ 1000) ∧ (0 ≤ b ∧ b ≤ 1000) ∧ (0 ≤ c ∧ c ≤ 1000) ∧ (0 ≤ d ∧ d ≤ 1000) ∧ a + b + c + d = 1000 := by
  simp [recipeB, inB] at h; omega

def distB (a b c d a' b' c' d' : Int) : Int :=
  if recipeB a b c d && recipeB a' b' c' d' then ((a - a').natAbs : Int) + ((b - b').natAbs : Int) + ((c - c').natAbs : Int) + ((d - d').natAbs : Int) else -1









end Go.Proofs.Ytnpdincjekelaaa
