/-
  No cell of these rows narrows 'for every input' (looked for: loops, veiled, ifaces, maps, wideKeys, modest, calm, conditions, laid).
  DERIVED. THE GIVEN ROWS OF THIS SEAT. 8 by the template 'for every input the law returns true; each argument reads behind the call as it read before'; 0 by the template 'total and deterministic' (their statements: YtnpdincjekelaaaTotals.lean).
  GIVEN WITH THE SEED: the statements are not yours to turn. If you find one false, say at which input.
  Laid BY PROGRAM, IN A SANDBOX (cutbox-rows.mjs): the forced cells as the released guide's own fill.sh prints them over the translation 6fb8048dc58291bf… (all of the seat's roots in one cut). By AI agents, Wed Nov 11 2026. No macro, syntax, notation, axiom, sorry.
-/
import Derived.Test.YtnpdincjekelaaaChecked
import GoSem.Claim
import GoSem.ClaimJoined
import GoSem.ClaimMapViews
import Derived.JoinedTies
import Derived.KernelRfl
namespace Go.Proofs.Ytnpdincjekelaaa
/- THE CELL 'sum', in the pinned program and in every row, IS THE sha256 OF THE DUMP (.gsa) THAT YtnpdincjekelaaaProg.lean LOADS. Nothing in Lean hashes anything: it is a label: what it is worth is what the hold of that sum in a sandbox is worth. -/
noncomputable def Try.pinned : Pinned := { name := "ytnpdincjekelaaa", sum := "6fb8048dc58291bf3f71e7445295718fe1b49f1d418caac8118d0d965345fd28", checked := Try.checked }
namespace Rows
def none {H : Type} : Left H := { results := [], args := [] }

/-- 'laws.FnWindows': WHATEVER THE INPUT: true; the input reads as it did. -/
def fnWindowsSpec : ChangeSpec := { name := "fnWindows", fn := fun _ => fun
  | [d] => { results := [.lit (.bool true)], args := [d] }
  | _ => none }
def fnWindowsRow : OpenClaim := { program := "ytnpdincjekelaaa", sum := "6fb8048dc58291bf3f71e7445295718fe1b49f1d418caac8118d0d965345fd28", func := "loop.example/g03303/laws.FnWindows", spec := "fnWindows", apart := false }
def FnWindowsSaid : Prop := fnWindowsRow.holds Try.pinned (OpenSpec.ofChange fnWindowsSpec)

/-- ITS FALSE NEIGHBOUR: 'it returns false'. Refute it at one input. -/
def fnWindowsWrong : ChangeSpec := { name := "fnWindows", fn := fun _ => fun
  | [d] => { results := [.lit (.bool false)], args := [d] }
  | _ => none }
def FnWindowsWrongFalsely : Prop := fnWindowsRow.holds Try.pinned (OpenSpec.ofChange fnWindowsWrong)

/-- 'laws.FnExactCountJoints': WHATEVER THE INPUT: true; the input reads as it did. -/
def fnExactCountJointsSpec : ChangeSpec := { name := "fnExactCountJoints", fn := fun _ => fun
  | [d] => { results := [.lit (.bool true)], args := [d] }
  | _ => none }
def fnExactCountJointsRow : OpenClaim := { program := "ytnpdincjekelaaa", sum := "6fb8048dc58291bf3f71e7445295718fe1b49f1d418caac8118d0d965345fd28", func := "loop.example/g03303/laws.FnExactCountJoints", spec := "fnExactCountJoints", apart := false }
def FnExactCountJointsSaid : Prop := fnExactCountJointsRow.holds Try.pinned (OpenSpec.ofChange fnExactCountJointsSpec)

/-- ITS FALSE NEIGHBOUR: 'it returns false'. Refute it at one input. -/
def fnExactCountJointsWrong : ChangeSpec := { name := "fnExactCountJoints", fn := fun _ => fun
  | [d] => { results := [.lit (.bool false)], args := [d] }
  | _ => none }
def FnExactCountJointsWrongFalsely : Prop := fnExactCountJointsRow.holds Try.pinned (OpenSpec.ofChange fnExactCountJointsWrong)

/-- 'laws.FnExactStepOn': WHATEVER THE INPUT: true; the input reads as it did. -/
def fnExactStepOnSpec : ChangeSpec := { name := "fnExactStepOn", fn := fun _ => fun
  | [d1, d2, d3, d4] => { results := [.lit (.bool true)], args := [d1, d2, d3, d4] }
  | _ => none }
def fnExactStepOnRow : OpenClaim := { program := "ytnpdincjekelaaa", sum := "6fb8048dc58291bf3f71e7445295718fe1b49f1d418caac8118d0d965345fd28", func := "loop.example/g03303/laws.FnExactStepOn", spec := "fnExactStepOn", unfollowed := true, recurses := true, apart := false }
def FnExactStepOnSaid : Prop := fnExactStepOnRow.holds Try.pinned (OpenSpec.ofChange fnExactStepOnSpec)

/-- ITS FALSE NEIGHBOUR: 'it returns false'. Refute it at one input. -/
def fnExactStepOnWrong : ChangeSpec := { name := "fnExactStepOn", fn := fun _ => fun
  | [d1, d2, d3, d4] => { results := [.lit (.bool false)], args := [d1, d2, d3, d4] }
  | _ => none }
def FnExactStepOnWrongFalsely : Prop := fnExactStepOnRow.holds Try.pinned (OpenSpec.ofChange fnExactStepOnWrong)

/-- 'laws.FnExactDraftOk': WHATEVER THE INPUT: true; the input reads as it did. -/
def fnExactDraftOkSpec : ChangeSpec := { name := "fnExactDraftOk", fn := fun _ => fun
  | [d] => { results := [.lit (.bool true)], args := [d] }
  | _ => none }
def fnExactDraftOkRow : OpenClaim := { program := "ytnpdincjekelaaa", sum := "6fb8048dc58291bf3f71e7445295718fe1b49f1d418caac8118d0d965345fd28", func := "loop.example/g03303/laws.FnExactDraftOk", spec := "fnExactDraftOk", unfollowed := true, recurses := true, apart := false }
def FnExactDraftOkSaid : Prop := fnExactDraftOkRow.holds Try.pinned (OpenSpec.ofChange fnExactDraftOkSpec)

/-- ITS FALSE NEIGHBOUR: 'it returns false'. Refute it at one input. -/
def fnExactDraftOkWrong : ChangeSpec := { name := "fnExactDraftOk", fn := fun _ => fun
  | [d] => { results := [.lit (.bool false)], args := [d] }
  | _ => none }
def FnExactDraftOkWrongFalsely : Prop := fnExactDraftOkRow.holds Try.pinned (OpenSpec.ofChange fnExactDraftOkWrong)

/-- 'laws.FnDrafts': WHATEVER THE INPUT: true; the input reads as it did. -/
def fnDraftsSpec : ChangeSpec := { name := "fnDrafts", fn := fun _ => fun
  | [d] => { results := [.lit (.bool true)], args := [d] }
  | _ => none }
def fnDraftsRow : OpenClaim := { program := "ytnpdincjekelaaa", sum := "6fb8048dc58291bf3f71e7445295718fe1b49f1d418caac8118d0d965345fd28", func := "loop.example/g03303/laws.FnDrafts", spec := "fnDrafts", unfollowed := true, recurses := true, apart := false }
def FnDraftsSaid : Prop := fnDraftsRow.holds Try.pinned (OpenSpec.ofChange fnDraftsSpec)

/-- ITS FALSE NEIGHBOUR: 'it returns false'. Refute it at one input. -/
def fnDraftsWrong : ChangeSpec := { name := "fnDrafts", fn := fun _ => fun
  | [d] => { results := [.lit (.bool false)], args := [d] }
  | _ => none }
def FnDraftsWrongFalsely : Prop := fnDraftsRow.holds Try.pinned (OpenSpec.ofChange fnDraftsWrong)

/-- 'laws.FnExactUndoAll': WHATEVER THE INPUT: true; the input reads as it did. -/
def fnExactUndoAllSpec : ChangeSpec := { name := "fnExactUndoAll", fn := fun _ => fun
  | [d] => { results := [.lit (.bool true)], args := [d] }
  | _ => none }
def fnExactUndoAllRow : OpenClaim := { program := "ytnpdincjekelaaa", sum := "6fb8048dc58291bf3f71e7445295718fe1b49f1d418caac8118d0d965345fd28", func := "loop.example/g03303/laws.FnExactUndoAll", spec := "fnExactUndoAll", unfollowed := true, recurses := true, apart := false }
def FnExactUndoAllSaid : Prop := fnExactUndoAllRow.holds Try.pinned (OpenSpec.ofChange fnExactUndoAllSpec)

/-- ITS FALSE NEIGHBOUR: 'it returns false'. Refute it at one input. -/
def fnExactUndoAllWrong : ChangeSpec := { name := "fnExactUndoAll", fn := fun _ => fun
  | [d] => { results := [.lit (.bool false)], args := [d] }
  | _ => none }
def FnExactUndoAllWrongFalsely : Prop := fnExactUndoAllRow.holds Try.pinned (OpenSpec.ofChange fnExactUndoAllWrong)

/-- 'laws.FnExactUndoStep': WHATEVER THE INPUT: true; the input reads as it did. -/
def fnExactUndoStepSpec : ChangeSpec := { name := "fnExactUndoStep", fn := fun _ => fun
  | [d] => { results := [.lit (.bool true)], args := [d] }
  | _ => none }
def fnExactUndoStepRow : OpenClaim := { program := "ytnpdincjekelaaa", sum := "6fb8048dc58291bf3f71e7445295718fe1b49f1d418caac8118d0d965345fd28", func := "loop.example/g03303/laws.FnExactUndoStep", spec := "fnExactUndoStep", unfollowed := true, recurses := true, apart := false }
def FnExactUndoStepSaid : Prop := fnExactUndoStepRow.holds Try.pinned (OpenSpec.ofChange fnExactUndoStepSpec)

/-- ITS FALSE NEIGHBOUR: 'it returns false'. Refute it at one input. -/
def fnExactUndoStepWrong : ChangeSpec := { name := "fnExactUndoStep", fn := fun _ => fun
  | [d] => { results := [.lit (.bool false)], args := [d] }
  | _ => none }
def FnExactUndoStepWrongFalsely : Prop := fnExactUndoStepRow.holds Try.pinned (OpenSpec.ofChange fnExactUndoStepWrong)

/-- 'laws.FnExactDoStep': WHATEVER THE INPUT: true; the input reads as it did. -/
def fnExactDoStepSpec : ChangeSpec := { name := "fnExactDoStep", fn := fun _ => fun
  | [d1, d2, d3, d4] => { results := [.lit (.bool true)], args := [d1, d2, d3, d4] }
  | _ => none }
def fnExactDoStepRow : OpenClaim := { program := "ytnpdincjekelaaa", sum := "6fb8048dc58291bf3f71e7445295718fe1b49f1d418caac8118d0d965345fd28", func := "loop.example/g03303/laws.FnExactDoStep", spec := "fnExactDoStep", unfollowed := true, recurses := true, apart := false }
def FnExactDoStepSaid : Prop := fnExactDoStepRow.holds Try.pinned (OpenSpec.ofChange fnExactDoStepSpec)

/-- ITS FALSE NEIGHBOUR: 'it returns false'. Refute it at one input. -/
def fnExactDoStepWrong : ChangeSpec := { name := "fnExactDoStep", fn := fun _ => fun
  | [d1, d2, d3, d4] => { results := [.lit (.bool false)], args := [d1, d2, d3, d4] }
  | _ => none }
def FnExactDoStepWrongFalsely : Prop := fnExactDoStepRow.holds Try.pinned (OpenSpec.ofChange fnExactDoStepWrong)

/- THE SECOND FORM. 'bulk': how many values and letters a reading holds, each counted each time it is reached (what is shared counts as often as it is met; a slice's spare places count too). A statement '..UptoSaid' is the law's where the arguments, and the package variables that the reading takes, are together of bulk at most 1048576: NARROWER than '..Said'. Prove '..Said' where nothing that the law and all that it calls make is longer than what came in: it says more and counts as full. Else prove '..UptoSaid'. A law counts once. -/
mutual
def uptoBulk {H : Type} : DataW H → Nat
  | .lit (.string bytes) => bytes.length + 1
  | .lit _ => 1
  | .nil => 1
  | .ptr d => uptoBulk d + 1
  | .slice elems spare => uptoBulkAll elems + uptoBulkAll spare + 1
  | .agg parts => uptoBulkAll parts + 1
  | .iface _ d => uptoBulk d + 1
  | .map entries => uptoBulkEntries entries + 1
  | .held _ => 1
def uptoBulkAll {H : Type} : List (DataW H) → Nat
  | [] => 0
  | d :: r => uptoBulk d + uptoBulkAll r
def uptoBulkEntries {H : Type} : List (Lit × DataW H) → Nat
  | [] => 0
  | x :: r => uptoBulkEntry x + uptoBulkEntries r
def uptoBulkEntry {H : Type} : Lit × DataW H → Nat
  | (.string bytes, d) => bytes.length + uptoBulk d + 1
  | (_, d) => uptoBulk d + 1
 end
def uptoSmall : (H : Type) → List (DataW H) → Bool := fun _ ds => decide (uptoBulkAll ds ≤ 1048576)
def OpenSpec.upto (s : _root_.Go.ChangeSpec) : _root_.Go.OpenSpec := { _root_.Go.OpenSpec.ofChange s with cond := some uptoSmall }

/-- 'laws.FnWindows', WHERE WHAT IT READS IS OF BULK AT MOST 1048576: true; the input reads as it did. -/
def fnWindowsUptoRow : OpenClaim := { program := "ytnpdincjekelaaa", sum := "6fb8048dc58291bf3f71e7445295718fe1b49f1d418caac8118d0d965345fd28", func := "loop.example/g03303/laws.FnWindows", spec := "fnWindows", apart := false, narrowed := true }
def FnWindowsUptoSaid : Prop := fnWindowsUptoRow.holds Try.pinned (OpenSpec.upto fnWindowsSpec)

/-- 'laws.FnExactCountJoints', WHERE WHAT IT READS IS OF BULK AT MOST 1048576: true; the input reads as it did. -/
def fnExactCountJointsUptoRow : OpenClaim := { program := "ytnpdincjekelaaa", sum := "6fb8048dc58291bf3f71e7445295718fe1b49f1d418caac8118d0d965345fd28", func := "loop.example/g03303/laws.FnExactCountJoints", spec := "fnExactCountJoints", apart := false, narrowed := true }
def FnExactCountJointsUptoSaid : Prop := fnExactCountJointsUptoRow.holds Try.pinned (OpenSpec.upto fnExactCountJointsSpec)

/-- 'laws.FnExactStepOn', WHERE WHAT IT READS IS OF BULK AT MOST 1048576: true; the input reads as it did. -/
def fnExactStepOnUptoRow : OpenClaim := { program := "ytnpdincjekelaaa", sum := "6fb8048dc58291bf3f71e7445295718fe1b49f1d418caac8118d0d965345fd28", func := "loop.example/g03303/laws.FnExactStepOn", spec := "fnExactStepOn", unfollowed := true, recurses := true, apart := false, narrowed := true }
def FnExactStepOnUptoSaid : Prop := fnExactStepOnUptoRow.holds Try.pinned (OpenSpec.upto fnExactStepOnSpec)

/-- 'laws.FnExactDraftOk', WHERE WHAT IT READS IS OF BULK AT MOST 1048576: true; the input reads as it did. -/
def fnExactDraftOkUptoRow : OpenClaim := { program := "ytnpdincjekelaaa", sum := "6fb8048dc58291bf3f71e7445295718fe1b49f1d418caac8118d0d965345fd28", func := "loop.example/g03303/laws.FnExactDraftOk", spec := "fnExactDraftOk", unfollowed := true, recurses := true, apart := false, narrowed := true }
def FnExactDraftOkUptoSaid : Prop := fnExactDraftOkUptoRow.holds Try.pinned (OpenSpec.upto fnExactDraftOkSpec)

/-- 'laws.FnDrafts', WHERE WHAT IT READS IS OF BULK AT MOST 1048576: true; the input reads as it did. -/
def fnDraftsUptoRow : OpenClaim := { program := "ytnpdincjekelaaa", sum := "6fb8048dc58291bf3f71e7445295718fe1b49f1d418caac8118d0d965345fd28", func := "loop.example/g03303/laws.FnDrafts", spec := "fnDrafts", unfollowed := true, recurses := true, apart := false, narrowed := true }
def FnDraftsUptoSaid : Prop := fnDraftsUptoRow.holds Try.pinned (OpenSpec.upto fnDraftsSpec)

/-- 'laws.FnExactUndoAll', WHERE WHAT IT READS IS OF BULK AT MOST 1048576: true; the input reads as it did. -/
def fnExactUndoAllUptoRow : OpenClaim := { program := "ytnpdincjekelaaa", sum := "6fb8048dc58291bf3f71e7445295718fe1b49f1d418caac8118d0d965345fd28", func := "loop.example/g03303/laws.FnExactUndoAll", spec := "fnExactUndoAll", unfollowed := true, recurses := true, apart := false, narrowed := true }
def FnExactUndoAllUptoSaid : Prop := fnExactUndoAllUptoRow.holds Try.pinned (OpenSpec.upto fnExactUndoAllSpec)

/-- 'laws.FnExactUndoStep', WHERE WHAT IT READS IS OF BULK AT MOST 1048576: true; the input reads as it did. -/
def fnExactUndoStepUptoRow : OpenClaim := { program := "ytnpdincjekelaaa", sum := "6fb8048dc58291bf3f71e7445295718fe1b49f1d418caac8118d0d965345fd28", func := "loop.example/g03303/laws.FnExactUndoStep", spec := "fnExactUndoStep", unfollowed := true, recurses := true, apart := false, narrowed := true }
def FnExactUndoStepUptoSaid : Prop := fnExactUndoStepUptoRow.holds Try.pinned (OpenSpec.upto fnExactUndoStepSpec)

/-- 'laws.FnExactDoStep', WHERE WHAT IT READS IS OF BULK AT MOST 1048576: true; the input reads as it did. -/
def fnExactDoStepUptoRow : OpenClaim := { program := "ytnpdincjekelaaa", sum := "6fb8048dc58291bf3f71e7445295718fe1b49f1d418caac8118d0d965345fd28", func := "loop.example/g03303/laws.FnExactDoStep", spec := "fnExactDoStep", unfollowed := true, recurses := true, apart := false, narrowed := true }
def FnExactDoStepUptoSaid : Prop := fnExactDoStepUptoRow.holds Try.pinned (OpenSpec.upto fnExactDoStepSpec)

end Rows
end Go.Proofs.Ytnpdincjekelaaa
