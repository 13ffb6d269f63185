/-
  No cell of these rows narrows 'for every input' (looked for: loops, veiled, ifaces, maps, wideKeys, modest, calm, conditions, laid).
  DERIVED. THE GIVEN ROWS OF THIS SEAT. 6 by the template 'for every input the law returns true; each argument reads behind the call as it read before'; 0 by the template 'total and deterministic' (their statements: YtdladmmhmncpoaaTotals.lean).
  GIVEN WITH THE SEED: the statements are not yours to turn. If you find one false, say at which input.
  Laid BY PROGRAM, IN A SANDBOX (cutbox-rows.mjs): the forced cells as the released guide's own fill.sh prints them over the translation 9e25cef2cb44989b… (all of the seat's roots in one cut). By AI agents, Wed Nov 11 2026. No macro, syntax, notation, axiom, sorry.
-/
import Derived.Test.YtdladmmhmncpoaaChecked
import GoSem.Claim
import GoSem.ClaimJoined
import GoSem.ClaimMapViews
import Derived.JoinedTies
import Derived.KernelRfl
namespace Go.Proofs.Ytdladmmhmncpoaa
/- THE CELL 'sum', in the pinned program and in every row, IS THE sha256 OF THE DUMP (.gsa) THAT YtdladmmhmncpoaaProg.lean LOADS. Nothing in Lean hashes anything: it is a label: what it is worth is what the hold of that sum in a sandbox is worth. -/
noncomputable def Try.pinned : Pinned := { name := "ytdladmmhmncpoaa", sum := "9e25cef2cb44989bda0dac498497bfc46e62a97d5c3dbd83382cdebf42022248", checked := Try.checked }
namespace Rows
def none {H : Type} : Left H := { results := [], args := [] }

/-- 'laws.FnSimplified': WHATEVER THE INPUT: true; the input reads as it did. -/
def fnSimplifiedSpec : ChangeSpec := { name := "fnSimplified", fn := fun _ => fun
  | [d] => { results := [.lit (.bool true)], args := [d] }
  | _ => none }
def fnSimplifiedRow : OpenClaim := { program := "ytdladmmhmncpoaa", sum := "9e25cef2cb44989bda0dac498497bfc46e62a97d5c3dbd83382cdebf42022248", func := "loop.example/g03303/laws.FnSimplified", spec := "fnSimplified", unfollowed := true, recurses := true, apart := false }
def FnSimplifiedSaid : Prop := fnSimplifiedRow.holds Try.pinned (OpenSpec.ofChange fnSimplifiedSpec)

/-- ITS FALSE NEIGHBOUR: 'it returns false'. Refute it at one input. -/
def fnSimplifiedWrong : ChangeSpec := { name := "fnSimplified", fn := fun _ => fun
  | [d] => { results := [.lit (.bool false)], args := [d] }
  | _ => none }
def FnSimplifiedWrongFalsely : Prop := fnSimplifiedRow.holds Try.pinned (OpenSpec.ofChange fnSimplifiedWrong)

/-- 'laws.FnRecipes': WHATEVER THE INPUT: true; the input reads as it did. -/
def fnRecipesSpec : ChangeSpec := { name := "fnRecipes", fn := fun _ => fun
  | [d] => { results := [.lit (.bool true)], args := [d] }
  | _ => none }
def fnRecipesRow : OpenClaim := { program := "ytdladmmhmncpoaa", sum := "9e25cef2cb44989bda0dac498497bfc46e62a97d5c3dbd83382cdebf42022248", func := "loop.example/g03303/laws.FnRecipes", spec := "fnRecipes", apart := false }
def FnRecipesSaid : Prop := fnRecipesRow.holds Try.pinned (OpenSpec.ofChange fnRecipesSpec)

/-- ITS FALSE NEIGHBOUR: 'it returns false'. Refute it at one input. -/
def fnRecipesWrong : ChangeSpec := { name := "fnRecipes", fn := fun _ => fun
  | [d] => { results := [.lit (.bool false)], args := [d] }
  | _ => none }
def FnRecipesWrongFalsely : Prop := fnRecipesRow.holds Try.pinned (OpenSpec.ofChange fnRecipesWrong)

/-- 'laws.FnExactSameWindow': WHATEVER THE INPUT: true; the input reads as it did. -/
def fnExactSameWindowSpec : ChangeSpec := { name := "fnExactSameWindow", fn := fun _ => fun
  | [d1, d2] => { results := [.lit (.bool true)], args := [d1, d2] }
  | _ => none }
def fnExactSameWindowRow : OpenClaim := { program := "ytdladmmhmncpoaa", sum := "9e25cef2cb44989bda0dac498497bfc46e62a97d5c3dbd83382cdebf42022248", func := "loop.example/g03303/laws.FnExactSameWindow", spec := "fnExactSameWindow", apart := false }
def FnExactSameWindowSaid : Prop := fnExactSameWindowRow.holds Try.pinned (OpenSpec.ofChange fnExactSameWindowSpec)

/-- ITS FALSE NEIGHBOUR: 'it returns false'. Refute it at one input. -/
def fnExactSameWindowWrong : ChangeSpec := { name := "fnExactSameWindow", fn := fun _ => fun
  | [d1, d2] => { results := [.lit (.bool false)], args := [d1, d2] }
  | _ => none }
def FnExactSameWindowWrongFalsely : Prop := fnExactSameWindowRow.holds Try.pinned (OpenSpec.ofChange fnExactSameWindowWrong)

/-- 'laws.FnExactGroupsOf': WHATEVER THE INPUT: true; the input reads as it did. -/
def fnExactGroupsOfSpec : ChangeSpec := { name := "fnExactGroupsOf", fn := fun _ => fun
  | [d1, d2] => { results := [.lit (.bool true)], args := [d1, d2] }
  | _ => none }
def fnExactGroupsOfRow : OpenClaim := { program := "ytdladmmhmncpoaa", sum := "9e25cef2cb44989bda0dac498497bfc46e62a97d5c3dbd83382cdebf42022248", func := "loop.example/g03303/laws.FnExactGroupsOf", spec := "fnExactGroupsOf", apart := false }
def FnExactGroupsOfSaid : Prop := fnExactGroupsOfRow.holds Try.pinned (OpenSpec.ofChange fnExactGroupsOfSpec)

/-- ITS FALSE NEIGHBOUR: 'it returns false'. Refute it at one input. -/
def fnExactGroupsOfWrong : ChangeSpec := { name := "fnExactGroupsOf", fn := fun _ => fun
  | [d1, d2] => { results := [.lit (.bool false)], args := [d1, d2] }
  | _ => none }
def FnExactGroupsOfWrongFalsely : Prop := fnExactGroupsOfRow.holds Try.pinned (OpenSpec.ofChange fnExactGroupsOfWrong)

/-- 'laws.FnWindows': WHATEVER THE INPUT: true; the input reads as it did. -/
def fnWindowsSpec : ChangeSpec := { name := "fnWindows", fn := fun _ => fun
  | [d] => { results := [.lit (.bool true)], args := [d] }
  | _ => none }
def fnWindowsRow : OpenClaim := { program := "ytdladmmhmncpoaa", sum := "9e25cef2cb44989bda0dac498497bfc46e62a97d5c3dbd83382cdebf42022248", func := "loop.example/g03303/laws.FnWindows", spec := "fnWindows", apart := false }
def FnWindowsSaid : Prop := fnWindowsRow.holds Try.pinned (OpenSpec.ofChange fnWindowsSpec)

/-- ITS FALSE NEIGHBOUR: 'it returns false'. Refute it at one input. -/
def fnWindowsWrong : ChangeSpec := { name := "fnWindows", fn := fun _ => fun
  | [d] => { results := [.lit (.bool false)], args := [d] }
  | _ => none }
def FnWindowsWrongFalsely : Prop := fnWindowsRow.holds Try.pinned (OpenSpec.ofChange fnWindowsWrong)

/-- 'laws.FnExactCountJoints': WHATEVER THE INPUT: true; the input reads as it did. -/
def fnExactCountJointsSpec : ChangeSpec := { name := "fnExactCountJoints", fn := fun _ => fun
  | [d] => { results := [.lit (.bool true)], args := [d] }
  | _ => none }
def fnExactCountJointsRow : OpenClaim := { program := "ytdladmmhmncpoaa", sum := "9e25cef2cb44989bda0dac498497bfc46e62a97d5c3dbd83382cdebf42022248", func := "loop.example/g03303/laws.FnExactCountJoints", spec := "fnExactCountJoints", apart := false }
def FnExactCountJointsSaid : Prop := fnExactCountJointsRow.holds Try.pinned (OpenSpec.ofChange fnExactCountJointsSpec)

/-- ITS FALSE NEIGHBOUR: 'it returns false'. Refute it at one input. -/
def fnExactCountJointsWrong : ChangeSpec := { name := "fnExactCountJoints", fn := fun _ => fun
  | [d] => { results := [.lit (.bool false)], args := [d] }
  | _ => none }
def FnExactCountJointsWrongFalsely : Prop := fnExactCountJointsRow.holds Try.pinned (OpenSpec.ofChange fnExactCountJointsWrong)

/- THE SECOND FORM. 'bulk': how many values and letters a reading holds, each counted each time it is reached (what is shared counts as often as it is met; a slice's spare places count too). A statement '..UptoSaid' is the law's where the arguments, and the package variables that the reading takes, are together of bulk at most 1048576: NARROWER than '..Said'. Prove '..Said' where nothing that the law and all that it calls make is longer than what came in: it says more and counts as full. Else prove '..UptoSaid'. A law counts once. -/
mutual
def uptoBulk {H : Type} : DataW H → Nat
  | .lit (.string bytes) => bytes.length + 1
  | .lit _ => 1
  | .nil => 1
  | .ptr d => uptoBulk d + 1
  | .slice elems spare => uptoBulkAll elems + uptoBulkAll spare + 1
  | .agg parts => uptoBulkAll parts + 1
  | .iface _ d => uptoBulk d + 1
  | .map entries => uptoBulkEntries entries + 1
  | .held _ => 1
def uptoBulkAll {H : Type} : List (DataW H) → Nat
  | [] => 0
  | d :: r => uptoBulk d + uptoBulkAll r
def uptoBulkEntries {H : Type} : List (Lit × DataW H) → Nat
  | [] => 0
  | x :: r => uptoBulkEntry x + uptoBulkEntries r
def uptoBulkEntry {H : Type} : Lit × DataW H → Nat
  | (.string bytes, d) => bytes.length + uptoBulk d + 1
  | (_, d) => uptoBulk d + 1
 end
def uptoSmall : (H : Type) → List (DataW H) → Bool := fun _ ds => decide (uptoBulkAll ds ≤ 1048576)
def OpenSpec.upto (s : _root_.Go.ChangeSpec) : _root_.Go.OpenSpec := { _root_.Go.OpenSpec.ofChange s with cond := some uptoSmall }

/-- 'laws.FnSimplified', WHERE WHAT IT READS IS OF BULK AT MOST 1048576: true; the input reads as it did. -/
def fnSimplifiedUptoRow : OpenClaim := { program := "ytdladmmhmncpoaa", sum := "9e25cef2cb44989bda0dac498497bfc46e62a97d5c3dbd83382cdebf42022248", func := "loop.example/g03303/laws.FnSimplified", spec := "fnSimplified", unfollowed := true, recurses := true, apart := false, narrowed := true }
def FnSimplifiedUptoSaid : Prop := fnSimplifiedUptoRow.holds Try.pinned (OpenSpec.upto fnSimplifiedSpec)

/-- 'laws.FnRecipes', WHERE WHAT IT READS IS OF BULK AT MOST 1048576: true; the input reads as it did. -/
def fnRecipesUptoRow : OpenClaim := { program := "ytdladmmhmncpoaa", sum := "9e25cef2cb44989bda0dac498497bfc46e62a97d5c3dbd83382cdebf42022248", func := "loop.example/g03303/laws.FnRecipes", spec := "fnRecipes", apart := false, narrowed := true }
def FnRecipesUptoSaid : Prop := fnRecipesUptoRow.holds Try.pinned (OpenSpec.upto fnRecipesSpec)

/-- 'laws.FnExactSameWindow', WHERE WHAT IT READS IS OF BULK AT MOST 1048576: true; the input reads as it did. -/
def fnExactSameWindowUptoRow : OpenClaim := { program := "ytdladmmhmncpoaa", sum := "9e25cef2cb44989bda0dac498497bfc46e62a97d5c3dbd83382cdebf42022248", func := "loop.example/g03303/laws.FnExactSameWindow", spec := "fnExactSameWindow", apart := false, narrowed := true }
def FnExactSameWindowUptoSaid : Prop := fnExactSameWindowUptoRow.holds Try.pinned (OpenSpec.upto fnExactSameWindowSpec)

/-- 'laws.FnExactGroupsOf', WHERE WHAT IT READS IS OF BULK AT MOST 1048576: true; the input reads as it did. -/
def fnExactGroupsOfUptoRow : OpenClaim := { program := "ytdladmmhmncpoaa", sum := "9e25cef2cb44989bda0dac498497bfc46e62a97d5c3dbd83382cdebf42022248", func := "loop.example/g03303/laws.FnExactGroupsOf", spec := "fnExactGroupsOf", apart := false, narrowed := true }
def FnExactGroupsOfUptoSaid : Prop := fnExactGroupsOfUptoRow.holds Try.pinned (OpenSpec.upto fnExactGroupsOfSpec)

/-- 'laws.FnWindows', WHERE WHAT IT READS IS OF BULK AT MOST 1048576: true; the input reads as it did. -/
def fnWindowsUptoRow : OpenClaim := { program := "ytdladmmhmncpoaa", sum := "9e25cef2cb44989bda0dac498497bfc46e62a97d5c3dbd83382cdebf42022248", func := "loop.example/g03303/laws.FnWindows", spec := "fnWindows", apart := false, narrowed := true }
def FnWindowsUptoSaid : Prop := fnWindowsUptoRow.holds Try.pinned (OpenSpec.upto fnWindowsSpec)

/-- 'laws.FnExactCountJoints', WHERE WHAT IT READS IS OF BULK AT MOST 1048576: true; the input reads as it did. -/
def fnExactCountJointsUptoRow : OpenClaim := { program := "ytdladmmhmncpoaa", sum := "9e25cef2cb44989bda0dac498497bfc46e62a97d5c3dbd83382cdebf42022248", func := "loop.example/g03303/laws.FnExactCountJoints", spec := "fnExactCountJoints", apart := false, narrowed := true }
def FnExactCountJointsUptoSaid : Prop := fnExactCountJointsUptoRow.holds Try.pinned (OpenSpec.upto fnExactCountJointsSpec)

end Rows
end Go.Proofs.Ytdladmmhmncpoaa
