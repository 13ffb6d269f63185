/-
  No cell of these rows narrows 'for every input' (looked for: loops, veiled, ifaces, maps, wideKeys, modest, calm, conditions, laid).
  DERIVED. THE GIVEN ROWS OF THIS SEAT. 20 by the template 'for every input the law returns true; each argument reads behind the call as it read before'; 0 by the template 'total and deterministic' (their statements: YtloicjmnedipaaaTotals.lean).
  GIVEN WITH THE SEED: the statements are not yours to turn. If you find one false, say at which input.
  Laid BY PROGRAM, IN A SANDBOX (cutbox-rows.mjs): the forced cells as the released guide's own fill.sh prints them over the translation 1a0389b0c1c11b67… (all of the seat's roots in one cut). By AI agents, Wed Nov 11 2026. No macro, syntax, notation, axiom, sorry.
-/
import Derived.Test.YtloicjmnedipaaaChecked
import GoSem.Claim
import GoSem.ClaimJoined
import GoSem.ClaimMapViews
import Derived.JoinedTies
import Derived.KernelRfl
namespace Go.Proofs.Ytloicjmnedipaaa
/- THE CELL 'sum', in the pinned program and in every row, IS THE sha256 OF THE DUMP (.gsa) THAT YtloicjmnedipaaaProg.lean LOADS. Nothing in Lean hashes anything: it is a label: what it is worth is what the hold of that sum in a sandbox is worth. -/
noncomputable def Try.pinned : Pinned := { name := "ytloicjmnedipaaa", sum := "1a0389b0c1c11b67dce00b35b043489614ca5df0925612bba00e70a63a95734a", checked := Try.checked }
namespace Rows
def none {H : Type} : Left H := { results := [], args := [] }

/-- 'laws.FnExactTariffOk': WHATEVER THE INPUT: true; the input reads as it did. -/
def fnExactTariffOkSpec : ChangeSpec := { name := "fnExactTariffOk", fn := fun _ => fun
  | [d] => { results := [.lit (.bool true)], args := [d] }
  | _ => none }
def fnExactTariffOkRow : OpenClaim := { program := "ytloicjmnedipaaa", sum := "1a0389b0c1c11b67dce00b35b043489614ca5df0925612bba00e70a63a95734a", func := "loop.example/g03303/laws.FnExactTariffOk", spec := "fnExactTariffOk", apart := false }
def FnExactTariffOkSaid : Prop := fnExactTariffOkRow.holds Try.pinned (OpenSpec.ofChange fnExactTariffOkSpec)

/-- ITS FALSE NEIGHBOUR: 'it returns false'. Refute it at one input. -/
def fnExactTariffOkWrong : ChangeSpec := { name := "fnExactTariffOk", fn := fun _ => fun
  | [d] => { results := [.lit (.bool false)], args := [d] }
  | _ => none }
def FnExactTariffOkWrongFalsely : Prop := fnExactTariffOkRow.holds Try.pinned (OpenSpec.ofChange fnExactTariffOkWrong)

/-- 'laws.FnExactRecipeOk': WHATEVER THE INPUT: true; the input reads as it did. -/
def fnExactRecipeOkSpec : ChangeSpec := { name := "fnExactRecipeOk", fn := fun _ => fun
  | [d] => { results := [.lit (.bool true)], args := [d] }
  | _ => none }
def fnExactRecipeOkRow : OpenClaim := { program := "ytloicjmnedipaaa", sum := "1a0389b0c1c11b67dce00b35b043489614ca5df0925612bba00e70a63a95734a", func := "loop.example/g03303/laws.FnExactRecipeOk", spec := "fnExactRecipeOk", apart := false }
def FnExactRecipeOkSaid : Prop := fnExactRecipeOkRow.holds Try.pinned (OpenSpec.ofChange fnExactRecipeOkSpec)

/-- ITS FALSE NEIGHBOUR: 'it returns false'. Refute it at one input. -/
def fnExactRecipeOkWrong : ChangeSpec := { name := "fnExactRecipeOk", fn := fun _ => fun
  | [d] => { results := [.lit (.bool false)], args := [d] }
  | _ => none }
def FnExactRecipeOkWrongFalsely : Prop := fnExactRecipeOkRow.holds Try.pinned (OpenSpec.ofChange fnExactRecipeOkWrong)

/-- 'laws.FnExactActOk': WHATEVER THE INPUT: true; the input reads as it did. -/
def fnExactActOkSpec : ChangeSpec := { name := "fnExactActOk", fn := fun _ => fun
  | [d] => { results := [.lit (.bool true)], args := [d] }
  | _ => none }
def fnExactActOkRow : OpenClaim := { program := "ytloicjmnedipaaa", sum := "1a0389b0c1c11b67dce00b35b043489614ca5df0925612bba00e70a63a95734a", func := "loop.example/g03303/laws.FnExactActOk", spec := "fnExactActOk", apart := false }
def FnExactActOkSaid : Prop := fnExactActOkRow.holds Try.pinned (OpenSpec.ofChange fnExactActOkSpec)

/-- ITS FALSE NEIGHBOUR: 'it returns false'. Refute it at one input. -/
def fnExactActOkWrong : ChangeSpec := { name := "fnExactActOk", fn := fun _ => fun
  | [d] => { results := [.lit (.bool false)], args := [d] }
  | _ => none }
def FnExactActOkWrongFalsely : Prop := fnExactActOkRow.holds Try.pinned (OpenSpec.ofChange fnExactActOkWrong)

/-- 'laws.FnExactDistanceOf': WHATEVER THE INPUT: true; the input reads as it did. -/
def fnExactDistanceOfSpec : ChangeSpec := { name := "fnExactDistanceOf", fn := fun _ => fun
  | [d1, d2] => { results := [.lit (.bool true)], args := [d1, d2] }
  | _ => none }
def fnExactDistanceOfRow : OpenClaim := { program := "ytloicjmnedipaaa", sum := "1a0389b0c1c11b67dce00b35b043489614ca5df0925612bba00e70a63a95734a", func := "loop.example/g03303/laws.FnExactDistanceOf", spec := "fnExactDistanceOf", apart := false }
def FnExactDistanceOfSaid : Prop := fnExactDistanceOfRow.holds Try.pinned (OpenSpec.ofChange fnExactDistanceOfSpec)

/-- ITS FALSE NEIGHBOUR: 'it returns false'. Refute it at one input. -/
def fnExactDistanceOfWrong : ChangeSpec := { name := "fnExactDistanceOf", fn := fun _ => fun
  | [d1, d2] => { results := [.lit (.bool false)], args := [d1, d2] }
  | _ => none }
def FnExactDistanceOfWrongFalsely : Prop := fnExactDistanceOfRow.holds Try.pinned (OpenSpec.ofChange fnExactDistanceOfWrong)

/-- 'laws.FnExactInstalments': WHATEVER THE INPUT: true; the input reads as it did. -/
def fnExactInstalmentsSpec : ChangeSpec := { name := "fnExactInstalments", fn := fun _ => fun
  | [d1, d2] => { results := [.lit (.bool true)], args := [d1, d2] }
  | _ => none }
def fnExactInstalmentsRow : OpenClaim := { program := "ytloicjmnedipaaa", sum := "1a0389b0c1c11b67dce00b35b043489614ca5df0925612bba00e70a63a95734a", func := "loop.example/g03303/laws.FnExactInstalments", spec := "fnExactInstalments", apart := false }
def FnExactInstalmentsSaid : Prop := fnExactInstalmentsRow.holds Try.pinned (OpenSpec.ofChange fnExactInstalmentsSpec)

/-- ITS FALSE NEIGHBOUR: 'it returns false'. Refute it at one input. -/
def fnExactInstalmentsWrong : ChangeSpec := { name := "fnExactInstalments", fn := fun _ => fun
  | [d1, d2] => { results := [.lit (.bool false)], args := [d1, d2] }
  | _ => none }
def FnExactInstalmentsWrongFalsely : Prop := fnExactInstalmentsRow.holds Try.pinned (OpenSpec.ofChange fnExactInstalmentsWrong)

/-- 'laws.FnExactAverageOf': WHATEVER THE INPUT: true; the input reads as it did. -/
def fnExactAverageOfSpec : ChangeSpec := { name := "fnExactAverageOf", fn := fun _ => fun
  | [d] => { results := [.lit (.bool true)], args := [d] }
  | _ => none }
def fnExactAverageOfRow : OpenClaim := { program := "ytloicjmnedipaaa", sum := "1a0389b0c1c11b67dce00b35b043489614ca5df0925612bba00e70a63a95734a", func := "loop.example/g03303/laws.FnExactAverageOf", spec := "fnExactAverageOf", apart := false }
def FnExactAverageOfSaid : Prop := fnExactAverageOfRow.holds Try.pinned (OpenSpec.ofChange fnExactAverageOfSpec)

/-- ITS FALSE NEIGHBOUR: 'it returns false'. Refute it at one input. -/
def fnExactAverageOfWrong : ChangeSpec := { name := "fnExactAverageOf", fn := fun _ => fun
  | [d] => { results := [.lit (.bool false)], args := [d] }
  | _ => none }
def FnExactAverageOfWrongFalsely : Prop := fnExactAverageOfRow.holds Try.pinned (OpenSpec.ofChange fnExactAverageOfWrong)

/-- 'laws.FnSimplified': WHATEVER THE INPUT: true; the input reads as it did. -/
def fnSimplifiedSpec : ChangeSpec := { name := "fnSimplified", fn := fun _ => fun
  | [d] => { results := [.lit (.bool true)], args := [d] }
  | _ => none }
def fnSimplifiedRow : OpenClaim := { program := "ytloicjmnedipaaa", sum := "1a0389b0c1c11b67dce00b35b043489614ca5df0925612bba00e70a63a95734a", func := "loop.example/g03303/laws.FnSimplified", spec := "fnSimplified", unfollowed := true, recurses := true, apart := false }
def FnSimplifiedSaid : Prop := fnSimplifiedRow.holds Try.pinned (OpenSpec.ofChange fnSimplifiedSpec)

/-- ITS FALSE NEIGHBOUR: 'it returns false'. Refute it at one input. -/
def fnSimplifiedWrong : ChangeSpec := { name := "fnSimplified", fn := fun _ => fun
  | [d] => { results := [.lit (.bool false)], args := [d] }
  | _ => none }
def FnSimplifiedWrongFalsely : Prop := fnSimplifiedRow.holds Try.pinned (OpenSpec.ofChange fnSimplifiedWrong)

/-- 'laws.FnExactNearestRecipe': WHATEVER THE INPUT: true; the input reads as it did. -/
def fnExactNearestRecipeSpec : ChangeSpec := { name := "fnExactNearestRecipe", fn := fun _ => fun
  | [d1, d2] => { results := [.lit (.bool true)], args := [d1, d2] }
  | _ => none }
def fnExactNearestRecipeRow : OpenClaim := { program := "ytloicjmnedipaaa", sum := "1a0389b0c1c11b67dce00b35b043489614ca5df0925612bba00e70a63a95734a", func := "loop.example/g03303/laws.FnExactNearestRecipe", spec := "fnExactNearestRecipe", apart := false }
def FnExactNearestRecipeSaid : Prop := fnExactNearestRecipeRow.holds Try.pinned (OpenSpec.ofChange fnExactNearestRecipeSpec)

/-- ITS FALSE NEIGHBOUR: 'it returns false'. Refute it at one input. -/
def fnExactNearestRecipeWrong : ChangeSpec := { name := "fnExactNearestRecipe", fn := fun _ => fun
  | [d1, d2] => { results := [.lit (.bool false)], args := [d1, d2] }
  | _ => none }
def FnExactNearestRecipeWrongFalsely : Prop := fnExactNearestRecipeRow.holds Try.pinned (OpenSpec.ofChange fnExactNearestRecipeWrong)

/-- 'laws.FnRecipes': WHATEVER THE INPUT: true; the input reads as it did. -/
def fnRecipesSpec : ChangeSpec := { name := "fnRecipes", fn := fun _ => fun
  | [d] => { results := [.lit (.bool true)], args := [d] }
  | _ => none }
def fnRecipesRow : OpenClaim := { program := "ytloicjmnedipaaa", sum := "1a0389b0c1c11b67dce00b35b043489614ca5df0925612bba00e70a63a95734a", func := "loop.example/g03303/laws.FnRecipes", spec := "fnRecipes", apart := false }
def FnRecipesSaid : Prop := fnRecipesRow.holds Try.pinned (OpenSpec.ofChange fnRecipesSpec)

/-- ITS FALSE NEIGHBOUR: 'it returns false'. Refute it at one input. -/
def fnRecipesWrong : ChangeSpec := { name := "fnRecipes", fn := fun _ => fun
  | [d] => { results := [.lit (.bool false)], args := [d] }
  | _ => none }
def FnRecipesWrongFalsely : Prop := fnRecipesRow.holds Try.pinned (OpenSpec.ofChange fnRecipesWrong)

/-- 'laws.FnExactIsForged': WHATEVER THE INPUT: true; the input reads as it did. -/
def fnExactIsForgedSpec : ChangeSpec := { name := "fnExactIsForged", fn := fun _ => fun
  | [d1, d2, d3] => { results := [.lit (.bool true)], args := [d1, d2, d3] }
  | _ => none }
def fnExactIsForgedRow : OpenClaim := { program := "ytloicjmnedipaaa", sum := "1a0389b0c1c11b67dce00b35b043489614ca5df0925612bba00e70a63a95734a", func := "loop.example/g03303/laws.FnExactIsForged", spec := "fnExactIsForged", apart := false }
def FnExactIsForgedSaid : Prop := fnExactIsForgedRow.holds Try.pinned (OpenSpec.ofChange fnExactIsForgedSpec)

/-- ITS FALSE NEIGHBOUR: 'it returns false'. Refute it at one input. -/
def fnExactIsForgedWrong : ChangeSpec := { name := "fnExactIsForged", fn := fun _ => fun
  | [d1, d2, d3] => { results := [.lit (.bool false)], args := [d1, d2, d3] }
  | _ => none }
def FnExactIsForgedWrongFalsely : Prop := fnExactIsForgedRow.holds Try.pinned (OpenSpec.ofChange fnExactIsForgedWrong)

/-- 'laws.FnExactSameWindow': WHATEVER THE INPUT: true; the input reads as it did. -/
def fnExactSameWindowSpec : ChangeSpec := { name := "fnExactSameWindow", fn := fun _ => fun
  | [d1, d2] => { results := [.lit (.bool true)], args := [d1, d2] }
  | _ => none }
def fnExactSameWindowRow : OpenClaim := { program := "ytloicjmnedipaaa", sum := "1a0389b0c1c11b67dce00b35b043489614ca5df0925612bba00e70a63a95734a", func := "loop.example/g03303/laws.FnExactSameWindow", spec := "fnExactSameWindow", apart := false }
def FnExactSameWindowSaid : Prop := fnExactSameWindowRow.holds Try.pinned (OpenSpec.ofChange fnExactSameWindowSpec)

/-- ITS FALSE NEIGHBOUR: 'it returns false'. Refute it at one input. -/
def fnExactSameWindowWrong : ChangeSpec := { name := "fnExactSameWindow", fn := fun _ => fun
  | [d1, d2] => { results := [.lit (.bool false)], args := [d1, d2] }
  | _ => none }
def FnExactSameWindowWrongFalsely : Prop := fnExactSameWindowRow.holds Try.pinned (OpenSpec.ofChange fnExactSameWindowWrong)

/-- 'laws.FnExactGroupsOf': WHATEVER THE INPUT: true; the input reads as it did. -/
def fnExactGroupsOfSpec : ChangeSpec := { name := "fnExactGroupsOf", fn := fun _ => fun
  | [d1, d2] => { results := [.lit (.bool true)], args := [d1, d2] }
  | _ => none }
def fnExactGroupsOfRow : OpenClaim := { program := "ytloicjmnedipaaa", sum := "1a0389b0c1c11b67dce00b35b043489614ca5df0925612bba00e70a63a95734a", func := "loop.example/g03303/laws.FnExactGroupsOf", spec := "fnExactGroupsOf", apart := false }
def FnExactGroupsOfSaid : Prop := fnExactGroupsOfRow.holds Try.pinned (OpenSpec.ofChange fnExactGroupsOfSpec)

/-- ITS FALSE NEIGHBOUR: 'it returns false'. Refute it at one input. -/
def fnExactGroupsOfWrong : ChangeSpec := { name := "fnExactGroupsOf", fn := fun _ => fun
  | [d1, d2] => { results := [.lit (.bool false)], args := [d1, d2] }
  | _ => none }
def FnExactGroupsOfWrongFalsely : Prop := fnExactGroupsOfRow.holds Try.pinned (OpenSpec.ofChange fnExactGroupsOfWrong)

/-- 'laws.FnWindows': WHATEVER THE INPUT: true; the input reads as it did. -/
def fnWindowsSpec : ChangeSpec := { name := "fnWindows", fn := fun _ => fun
  | [d] => { results := [.lit (.bool true)], args := [d] }
  | _ => none }
def fnWindowsRow : OpenClaim := { program := "ytloicjmnedipaaa", sum := "1a0389b0c1c11b67dce00b35b043489614ca5df0925612bba00e70a63a95734a", func := "loop.example/g03303/laws.FnWindows", spec := "fnWindows", apart := false }
def FnWindowsSaid : Prop := fnWindowsRow.holds Try.pinned (OpenSpec.ofChange fnWindowsSpec)

/-- ITS FALSE NEIGHBOUR: 'it returns false'. Refute it at one input. -/
def fnWindowsWrong : ChangeSpec := { name := "fnWindows", fn := fun _ => fun
  | [d] => { results := [.lit (.bool false)], args := [d] }
  | _ => none }
def FnWindowsWrongFalsely : Prop := fnWindowsRow.holds Try.pinned (OpenSpec.ofChange fnWindowsWrong)

/-- 'laws.FnExactCountJoints': WHATEVER THE INPUT: true; the input reads as it did. -/
def fnExactCountJointsSpec : ChangeSpec := { name := "fnExactCountJoints", fn := fun _ => fun
  | [d] => { results := [.lit (.bool true)], args := [d] }
  | _ => none }
def fnExactCountJointsRow : OpenClaim := { program := "ytloicjmnedipaaa", sum := "1a0389b0c1c11b67dce00b35b043489614ca5df0925612bba00e70a63a95734a", func := "loop.example/g03303/laws.FnExactCountJoints", spec := "fnExactCountJoints", apart := false }
def FnExactCountJointsSaid : Prop := fnExactCountJointsRow.holds Try.pinned (OpenSpec.ofChange fnExactCountJointsSpec)

/-- ITS FALSE NEIGHBOUR: 'it returns false'. Refute it at one input. -/
def fnExactCountJointsWrong : ChangeSpec := { name := "fnExactCountJoints", fn := fun _ => fun
  | [d] => { results := [.lit (.bool false)], args := [d] }
  | _ => none }
def FnExactCountJointsWrongFalsely : Prop := fnExactCountJointsRow.holds Try.pinned (OpenSpec.ofChange fnExactCountJointsWrong)

/-- 'laws.FnExactStepOn': WHATEVER THE INPUT: true; the input reads as it did. -/
def fnExactStepOnSpec : ChangeSpec := { name := "fnExactStepOn", fn := fun _ => fun
  | [d1, d2, d3, d4] => { results := [.lit (.bool true)], args := [d1, d2, d3, d4] }
  | _ => none }
def fnExactStepOnRow : OpenClaim := { program := "ytloicjmnedipaaa", sum := "1a0389b0c1c11b67dce00b35b043489614ca5df0925612bba00e70a63a95734a", func := "loop.example/g03303/laws.FnExactStepOn", spec := "fnExactStepOn", unfollowed := true, recurses := true, apart := false }
def FnExactStepOnSaid : Prop := fnExactStepOnRow.holds Try.pinned (OpenSpec.ofChange fnExactStepOnSpec)

/-- ITS FALSE NEIGHBOUR: 'it returns false'. Refute it at one input. -/
def fnExactStepOnWrong : ChangeSpec := { name := "fnExactStepOn", fn := fun _ => fun
  | [d1, d2, d3, d4] => { results := [.lit (.bool false)], args := [d1, d2, d3, d4] }
  | _ => none }
def FnExactStepOnWrongFalsely : Prop := fnExactStepOnRow.holds Try.pinned (OpenSpec.ofChange fnExactStepOnWrong)

/-- 'laws.FnExactDraftOk': WHATEVER THE INPUT: true; the input reads as it did. -/
def fnExactDraftOkSpec : ChangeSpec := { name := "fnExactDraftOk", fn := fun _ => fun
  | [d] => { results := [.lit (.bool true)], args := [d] }
  | _ => none }
def fnExactDraftOkRow : OpenClaim := { program := "ytloicjmnedipaaa", sum := "1a0389b0c1c11b67dce00b35b043489614ca5df0925612bba00e70a63a95734a", func := "loop.example/g03303/laws.FnExactDraftOk", spec := "fnExactDraftOk", unfollowed := true, recurses := true, apart := false }
def FnExactDraftOkSaid : Prop := fnExactDraftOkRow.holds Try.pinned (OpenSpec.ofChange fnExactDraftOkSpec)

/-- ITS FALSE NEIGHBOUR: 'it returns false'. Refute it at one input. -/
def fnExactDraftOkWrong : ChangeSpec := { name := "fnExactDraftOk", fn := fun _ => fun
  | [d] => { results := [.lit (.bool false)], args := [d] }
  | _ => none }
def FnExactDraftOkWrongFalsely : Prop := fnExactDraftOkRow.holds Try.pinned (OpenSpec.ofChange fnExactDraftOkWrong)

/-- 'laws.FnDrafts': WHATEVER THE INPUT: true; the input reads as it did. -/
def fnDraftsSpec : ChangeSpec := { name := "fnDrafts", fn := fun _ => fun
  | [d] => { results := [.lit (.bool true)], args := [d] }
  | _ => none }
def fnDraftsRow : OpenClaim := { program := "ytloicjmnedipaaa", sum := "1a0389b0c1c11b67dce00b35b043489614ca5df0925612bba00e70a63a95734a", func := "loop.example/g03303/laws.FnDrafts", spec := "fnDrafts", unfollowed := true, recurses := true, apart := false }
def FnDraftsSaid : Prop := fnDraftsRow.holds Try.pinned (OpenSpec.ofChange fnDraftsSpec)

/-- ITS FALSE NEIGHBOUR: 'it returns false'. Refute it at one input. -/
def fnDraftsWrong : ChangeSpec := { name := "fnDrafts", fn := fun _ => fun
  | [d] => { results := [.lit (.bool false)], args := [d] }
  | _ => none }
def FnDraftsWrongFalsely : Prop := fnDraftsRow.holds Try.pinned (OpenSpec.ofChange fnDraftsWrong)

/-- 'laws.FnExactUndoAll': WHATEVER THE INPUT: true; the input reads as it did. -/
def fnExactUndoAllSpec : ChangeSpec := { name := "fnExactUndoAll", fn := fun _ => fun
  | [d] => { results := [.lit (.bool true)], args := [d] }
  | _ => none }
def fnExactUndoAllRow : OpenClaim := { program := "ytloicjmnedipaaa", sum := "1a0389b0c1c11b67dce00b35b043489614ca5df0925612bba00e70a63a95734a", func := "loop.example/g03303/laws.FnExactUndoAll", spec := "fnExactUndoAll", unfollowed := true, recurses := true, apart := false }
def FnExactUndoAllSaid : Prop := fnExactUndoAllRow.holds Try.pinned (OpenSpec.ofChange fnExactUndoAllSpec)

/-- ITS FALSE NEIGHBOUR: 'it returns false'. Refute it at one input. -/
def fnExactUndoAllWrong : ChangeSpec := { name := "fnExactUndoAll", fn := fun _ => fun
  | [d] => { results := [.lit (.bool false)], args := [d] }
  | _ => none }
def FnExactUndoAllWrongFalsely : Prop := fnExactUndoAllRow.holds Try.pinned (OpenSpec.ofChange fnExactUndoAllWrong)

/-- 'laws.FnExactUndoStep': WHATEVER THE INPUT: true; the input reads as it did. -/
def fnExactUndoStepSpec : ChangeSpec := { name := "fnExactUndoStep", fn := fun _ => fun
  | [d] => { results := [.lit (.bool true)], args := [d] }
  | _ => none }
def fnExactUndoStepRow : OpenClaim := { program := "ytloicjmnedipaaa", sum := "1a0389b0c1c11b67dce00b35b043489614ca5df0925612bba00e70a63a95734a", func := "loop.example/g03303/laws.FnExactUndoStep", spec := "fnExactUndoStep", unfollowed := true, recurses := true, apart := false }
def FnExactUndoStepSaid : Prop := fnExactUndoStepRow.holds Try.pinned (OpenSpec.ofChange fnExactUndoStepSpec)

/-- ITS FALSE NEIGHBOUR: 'it returns false'. Refute it at one input. -/
def fnExactUndoStepWrong : ChangeSpec := { name := "fnExactUndoStep", fn := fun _ => fun
  | [d] => { results := [.lit (.bool false)], args := [d] }
  | _ => none }
def FnExactUndoStepWrongFalsely : Prop := fnExactUndoStepRow.holds Try.pinned (OpenSpec.ofChange fnExactUndoStepWrong)

/-- 'laws.FnExactDoStep': WHATEVER THE INPUT: true; the input reads as it did. -/
def fnExactDoStepSpec : ChangeSpec := { name := "fnExactDoStep", fn := fun _ => fun
  | [d1, d2, d3, d4] => { results := [.lit (.bool true)], args := [d1, d2, d3, d4] }
  | _ => none }
def fnExactDoStepRow : OpenClaim := { program := "ytloicjmnedipaaa", sum := "1a0389b0c1c11b67dce00b35b043489614ca5df0925612bba00e70a63a95734a", func := "loop.example/g03303/laws.FnExactDoStep", spec := "fnExactDoStep", unfollowed := true, recurses := true, apart := false }
def FnExactDoStepSaid : Prop := fnExactDoStepRow.holds Try.pinned (OpenSpec.ofChange fnExactDoStepSpec)

/-- ITS FALSE NEIGHBOUR: 'it returns false'. Refute it at one input. -/
def fnExactDoStepWrong : ChangeSpec := { name := "fnExactDoStep", fn := fun _ => fun
  | [d1, d2, d3, d4] => { results := [.lit (.bool false)], args := [d1, d2, d3, d4] }
  | _ => none }
def FnExactDoStepWrongFalsely : Prop := fnExactDoStepRow.holds Try.pinned (OpenSpec.ofChange fnExactDoStepWrong)

/- THE SECOND FORM. 'bulk': how many values and letters a reading holds, each counted each time it is reached (what is shared counts as often as it is met; a slice's spare places count too). A statement '..UptoSaid' is the law's where the arguments, and the package variables that the reading takes, are together of bulk at most 1048576: NARROWER than '..Said'. Prove '..Said' where nothing that the law and all that it calls make is longer than what came in: it says more and counts as full. Else prove '..UptoSaid'. A law counts once. -/
mutual
def uptoBulk {H : Type} : DataW H → Nat
  | .lit (.string bytes) => bytes.length + 1
  | .lit _ => 1
  | .nil => 1
  | .ptr d => uptoBulk d + 1
  | .slice elems spare => uptoBulkAll elems + uptoBulkAll spare + 1
  | .agg parts => uptoBulkAll parts + 1
  | .iface _ d => uptoBulk d + 1
  | .map entries => uptoBulkEntries entries + 1
  | .held _ => 1
def uptoBulkAll {H : Type} : List (DataW H) → Nat
  | [] => 0
  | d :: r => uptoBulk d + uptoBulkAll r
def uptoBulkEntries {H : Type} : List (Lit × DataW H) → Nat
  | [] => 0
  | x :: r => uptoBulkEntry x + uptoBulkEntries r
def uptoBulkEntry {H : Type} : Lit × DataW H → Nat
  | (.string bytes, d) => bytes.length + uptoBulk d + 1
  | (_, d) => uptoBulk d + 1
 end
def uptoSmall : (H : Type) → List (DataW H) → Bool := fun _ ds => decide (uptoBulkAll ds ≤ 1048576)
def OpenSpec.upto (s : _root_.Go.ChangeSpec) : _root_.Go.OpenSpec := { _root_.Go.OpenSpec.ofChange s with cond := some uptoSmall }

/-- 'laws.FnExactTariffOk', WHERE WHAT IT READS IS OF BULK AT MOST 1048576: true; the input reads as it did. -/
def fnExactTariffOkUptoRow : OpenClaim := { program := "ytloicjmnedipaaa", sum := "1a0389b0c1c11b67dce00b35b043489614ca5df0925612bba00e70a63a95734a", func := "loop.example/g03303/laws.FnExactTariffOk", spec := "fnExactTariffOk", apart := false, narrowed := true }
def FnExactTariffOkUptoSaid : Prop := fnExactTariffOkUptoRow.holds Try.pinned (OpenSpec.upto fnExactTariffOkSpec)

/-- 'laws.FnExactRecipeOk', WHERE WHAT IT READS IS OF BULK AT MOST 1048576: true; the input reads as it did. -/
def fnExactRecipeOkUptoRow : OpenClaim := { program := "ytloicjmnedipaaa", sum := "1a0389b0c1c11b67dce00b35b043489614ca5df0925612bba00e70a63a95734a", func := "loop.example/g03303/laws.FnExactRecipeOk", spec := "fnExactRecipeOk", apart := false, narrowed := true }
def FnExactRecipeOkUptoSaid : Prop := fnExactRecipeOkUptoRow.holds Try.pinned (OpenSpec.upto fnExactRecipeOkSpec)

/-- 'laws.FnExactActOk', WHERE WHAT IT READS IS OF BULK AT MOST 1048576: true; the input reads as it did. -/
def fnExactActOkUptoRow : OpenClaim := { program := "ytloicjmnedipaaa", sum := "1a0389b0c1c11b67dce00b35b043489614ca5df0925612bba00e70a63a95734a", func := "loop.example/g03303/laws.FnExactActOk", spec := "fnExactActOk", apart := false, narrowed := true }
def FnExactActOkUptoSaid : Prop := fnExactActOkUptoRow.holds Try.pinned (OpenSpec.upto fnExactActOkSpec)

/-- 'laws.FnExactDistanceOf', WHERE WHAT IT READS IS OF BULK AT MOST 1048576: true; the input reads as it did. -/
def fnExactDistanceOfUptoRow : OpenClaim := { program := "ytloicjmnedipaaa", sum := "1a0389b0c1c11b67dce00b35b043489614ca5df0925612bba00e70a63a95734a", func := "loop.example/g03303/laws.FnExactDistanceOf", spec := "fnExactDistanceOf", apart := false, narrowed := true }
def FnExactDistanceOfUptoSaid : Prop := fnExactDistanceOfUptoRow.holds Try.pinned (OpenSpec.upto fnExactDistanceOfSpec)

/-- 'laws.FnExactInstalments', WHERE WHAT IT READS IS OF BULK AT MOST 1048576: true; the input reads as it did. -/
def fnExactInstalmentsUptoRow : OpenClaim := { program := "ytloicjmnedipaaa", sum := "1a0389b0c1c11b67dce00b35b043489614ca5df0925612bba00e70a63a95734a", func := "loop.example/g03303/laws.FnExactInstalments", spec := "fnExactInstalments", apart := false, narrowed := true }
def FnExactInstalmentsUptoSaid : Prop := fnExactInstalmentsUptoRow.holds Try.pinned (OpenSpec.upto fnExactInstalmentsSpec)

/-- 'laws.FnExactAverageOf', WHERE WHAT IT READS IS OF BULK AT MOST 1048576: true; the input reads as it did. -/
def fnExactAverageOfUptoRow : OpenClaim := { program := "ytloicjmnedipaaa", sum := "1a0389b0c1c11b67dce00b35b043489614ca5df0925612bba00e70a63a95734a", func := "loop.example/g03303/laws.FnExactAverageOf", spec := "fnExactAverageOf", apart := false, narrowed := true }
def FnExactAverageOfUptoSaid : Prop := fnExactAverageOfUptoRow.holds Try.pinned (OpenSpec.upto fnExactAverageOfSpec)

/-- 'laws.FnSimplified', WHERE WHAT IT READS IS OF BULK AT MOST 1048576: true; the input reads as it did. -/
def fnSimplifiedUptoRow : OpenClaim := { program := "ytloicjmnedipaaa", sum := "1a0389b0c1c11b67dce00b35b043489614ca5df0925612bba00e70a63a95734a", func := "loop.example/g03303/laws.FnSimplified", spec := "fnSimplified", unfollowed := true, recurses := true, apart := false, narrowed := true }
def FnSimplifiedUptoSaid : Prop := fnSimplifiedUptoRow.holds Try.pinned (OpenSpec.upto fnSimplifiedSpec)

/-- 'laws.FnExactNearestRecipe', WHERE WHAT IT READS IS OF BULK AT MOST 1048576: true; the input reads as it did. -/
def fnExactNearestRecipeUptoRow : OpenClaim := { program := "ytloicjmnedipaaa", sum := "1a0389b0c1c11b67dce00b35b043489614ca5df0925612bba00e70a63a95734a", func := "loop.example/g03303/laws.FnExactNearestRecipe", spec := "fnExactNearestRecipe", apart := false, narrowed := true }
def FnExactNearestRecipeUptoSaid : Prop := fnExactNearestRecipeUptoRow.holds Try.pinned (OpenSpec.upto fnExactNearestRecipeSpec)

/-- 'laws.FnRecipes', WHERE WHAT IT READS IS OF BULK AT MOST 1048576: true; the input reads as it did. -/
def fnRecipesUptoRow : OpenClaim := { program := "ytloicjmnedipaaa", sum := "1a0389b0c1c11b67dce00b35b043489614ca5df0925612bba00e70a63a95734a", func := "loop.example/g03303/laws.FnRecipes", spec := "fnRecipes", apart := false, narrowed := true }
def FnRecipesUptoSaid : Prop := fnRecipesUptoRow.holds Try.pinned (OpenSpec.upto fnRecipesSpec)

/-- 'laws.FnExactIsForged', WHERE WHAT IT READS IS OF BULK AT MOST 1048576: true; the input reads as it did. -/
def fnExactIsForgedUptoRow : OpenClaim := { program := "ytloicjmnedipaaa", sum := "1a0389b0c1c11b67dce00b35b043489614ca5df0925612bba00e70a63a95734a", func := "loop.example/g03303/laws.FnExactIsForged", spec := "fnExactIsForged", apart := false, narrowed := true }
def FnExactIsForgedUptoSaid : Prop := fnExactIsForgedUptoRow.holds Try.pinned (OpenSpec.upto fnExactIsForgedSpec)

/-- 'laws.FnExactSameWindow', WHERE WHAT IT READS IS OF BULK AT MOST 1048576: true; the input reads as it did. -/
def fnExactSameWindowUptoRow : OpenClaim := { program := "ytloicjmnedipaaa", sum := "1a0389b0c1c11b67dce00b35b043489614ca5df0925612bba00e70a63a95734a", func := "loop.example/g03303/laws.FnExactSameWindow", spec := "fnExactSameWindow", apart := false, narrowed := true }
def FnExactSameWindowUptoSaid : Prop := fnExactSameWindowUptoRow.holds Try.pinned (OpenSpec.upto fnExactSameWindowSpec)

/-- 'laws.FnExactGroupsOf', WHERE WHAT IT READS IS OF BULK AT MOST 1048576: true; the input reads as it did. -/
def fnExactGroupsOfUptoRow : OpenClaim := { program := "ytloicjmnedipaaa", sum := "1a0389b0c1c11b67dce00b35b043489614ca5df0925612bba00e70a63a95734a", func := "loop.example/g03303/laws.FnExactGroupsOf", spec := "fnExactGroupsOf", apart := false, narrowed := true }
def FnExactGroupsOfUptoSaid : Prop := fnExactGroupsOfUptoRow.holds Try.pinned (OpenSpec.upto fnExactGroupsOfSpec)

/-- 'laws.FnWindows', WHERE WHAT IT READS IS OF BULK AT MOST 1048576: true; the input reads as it did. -/
def fnWindowsUptoRow : OpenClaim := { program := "ytloicjmnedipaaa", sum := "1a0389b0c1c11b67dce00b35b043489614ca5df0925612bba00e70a63a95734a", func := "loop.example/g03303/laws.FnWindows", spec := "fnWindows", apart := false, narrowed := true }
def FnWindowsUptoSaid : Prop := fnWindowsUptoRow.holds Try.pinned (OpenSpec.upto fnWindowsSpec)

/-- 'laws.FnExactCountJoints', WHERE WHAT IT READS IS OF BULK AT MOST 1048576: true; the input reads as it did. -/
def fnExactCountJointsUptoRow : OpenClaim := { program := "ytloicjmnedipaaa", sum := "1a0389b0c1c11b67dce00b35b043489614ca5df0925612bba00e70a63a95734a", func := "loop.example/g03303/laws.FnExactCountJoints", spec := "fnExactCountJoints", apart := false, narrowed := true }
def FnExactCountJointsUptoSaid : Prop := fnExactCountJointsUptoRow.holds Try.pinned (OpenSpec.upto fnExactCountJointsSpec)

/-- 'laws.FnExactStepOn', WHERE WHAT IT READS IS OF BULK AT MOST 1048576: true; the input reads as it did. -/
def fnExactStepOnUptoRow : OpenClaim := { program := "ytloicjmnedipaaa", sum := "1a0389b0c1c11b67dce00b35b043489614ca5df0925612bba00e70a63a95734a", func := "loop.example/g03303/laws.FnExactStepOn", spec := "fnExactStepOn", unfollowed := true, recurses := true, apart := false, narrowed := true }
def FnExactStepOnUptoSaid : Prop := fnExactStepOnUptoRow.holds Try.pinned (OpenSpec.upto fnExactStepOnSpec)

/-- 'laws.FnExactDraftOk', WHERE WHAT IT READS IS OF BULK AT MOST 1048576: true; the input reads as it did. -/
def fnExactDraftOkUptoRow : OpenClaim := { program := "ytloicjmnedipaaa", sum := "1a0389b0c1c11b67dce00b35b043489614ca5df0925612bba00e70a63a95734a", func := "loop.example/g03303/laws.FnExactDraftOk", spec := "fnExactDraftOk", unfollowed := true, recurses := true, apart := false, narrowed := true }
def FnExactDraftOkUptoSaid : Prop := fnExactDraftOkUptoRow.holds Try.pinned (OpenSpec.upto fnExactDraftOkSpec)

/-- 'laws.FnDrafts', WHERE WHAT IT READS IS OF BULK AT MOST 1048576: true; the input reads as it did. -/
def fnDraftsUptoRow : OpenClaim := { program := "ytloicjmnedipaaa", sum := "1a0389b0c1c11b67dce00b35b043489614ca5df0925612bba00e70a63a95734a", func := "loop.example/g03303/laws.FnDrafts", spec := "fnDrafts", unfollowed := true, recurses := true, apart := false, narrowed := true }
def FnDraftsUptoSaid : Prop := fnDraftsUptoRow.holds Try.pinned (OpenSpec.upto fnDraftsSpec)

/-- 'laws.FnExactUndoAll', WHERE WHAT IT READS IS OF BULK AT MOST 1048576: true; the input reads as it did. -/
def fnExactUndoAllUptoRow : OpenClaim := { program := "ytloicjmnedipaaa", sum := "1a0389b0c1c11b67dce00b35b043489614ca5df0925612bba00e70a63a95734a", func := "loop.example/g03303/laws.FnExactUndoAll", spec := "fnExactUndoAll", unfollowed := true, recurses := true, apart := false, narrowed := true }
def FnExactUndoAllUptoSaid : Prop := fnExactUndoAllUptoRow.holds Try.pinned (OpenSpec.upto fnExactUndoAllSpec)

/-- 'laws.FnExactUndoStep', WHERE WHAT IT READS IS OF BULK AT MOST 1048576: true; the input reads as it did. -/
def fnExactUndoStepUptoRow : OpenClaim := { program := "ytloicjmnedipaaa", sum := "1a0389b0c1c11b67dce00b35b043489614ca5df0925612bba00e70a63a95734a", func := "loop.example/g03303/laws.FnExactUndoStep", spec := "fnExactUndoStep", unfollowed := true, recurses := true, apart := false, narrowed := true }
def FnExactUndoStepUptoSaid : Prop := fnExactUndoStepUptoRow.holds Try.pinned (OpenSpec.upto fnExactUndoStepSpec)

/-- 'laws.FnExactDoStep', WHERE WHAT IT READS IS OF BULK AT MOST 1048576: true; the input reads as it did. -/
def fnExactDoStepUptoRow : OpenClaim := { program := "ytloicjmnedipaaa", sum := "1a0389b0c1c11b67dce00b35b043489614ca5df0925612bba00e70a63a95734a", func := "loop.example/g03303/laws.FnExactDoStep", spec := "fnExactDoStep", unfollowed := true, recurses := true, apart := false, narrowed := true }
def FnExactDoStepUptoSaid : Prop := fnExactDoStepUptoRow.holds Try.pinned (OpenSpec.upto fnExactDoStepSpec)

end Rows
end Go.Proofs.Ytloicjmnedipaaa
