/-
  No cell of these rows narrows 'for every input' (looked for: loops, veiled, ifaces, maps, wideKeys, modest, calm, conditions, laid).
  DERIVED. THE GIVEN ROWS OF THIS SEAT. 12 by the template 'for every input the law returns true; each argument reads behind the call as it read before'; 0 by the template 'total and deterministic' (their statements: YtoknmjpnelbplaaGreatTotals.lean).
  GIVEN WITH THE SEED: the statements are not yours to turn. If you find one false, say at which input.
  Laid BY PROGRAM, IN A SANDBOX (cutbox-rows.mjs): the forced cells as the released guide's own fill.sh prints them over the translation 39712ba717687eb7… (all of the seat's roots in one cut). By AI agents, Wed Nov 11 2026. No macro, syntax, notation, axiom, sorry.
-/
import Derived.Test.YtoknmjpnelbplaaGreatChecked
import GoSem.Claim
import GoSem.ClaimJoined
import GoSem.ClaimMapViews
import Derived.JoinedTies
import Derived.KernelRfl
namespace Go.Proofs.YtoknmjpnelbplaaGreat
/- THE CELL 'sum', in the pinned program and in every row, IS THE sha256 OF THE DUMP (.gsa) THAT YtoknmjpnelbplaaGreatProg.lean LOADS. Nothing in Lean hashes anything: it is a label: what it is worth is what the hold of that sum in a sandbox is worth. -/
noncomputable def Tryz.pinned : Pinned := { name := "ytoknmjpnelbplaagreat", sum := "39712ba717687eb71dd3d70246ccf57bc48cb713e797b823daf63bdfdcce1c2f", checked := Tryz.checked }
namespace Rows
def none {H : Type} : Left H := { results := [], args := [] }

/-- 'laws.FnExactStudioOk': WHATEVER THE INPUT: true; the input reads as it did. -/
def fnExactStudioOkSpec : ChangeSpec := { name := "fnExactStudioOk", fn := fun _ => fun
  | [d] => { results := [.lit (.bool true)], args := [d] }
  | _ => none }
def fnExactStudioOkRow : OpenClaim := { program := "ytoknmjpnelbplaagreat", sum := "39712ba717687eb71dd3d70246ccf57bc48cb713e797b823daf63bdfdcce1c2f", func := "loop.example/g03303/laws.FnExactStudioOk", spec := "fnExactStudioOk", unfollowed := true, recurses := true, apart := false }
def FnExactStudioOkSaid : Prop := fnExactStudioOkRow.holds Tryz.pinned (OpenSpec.ofChange fnExactStudioOkSpec)

/-- ITS FALSE NEIGHBOUR: 'it returns false'. Refute it at one input. -/
def fnExactStudioOkWrong : ChangeSpec := { name := "fnExactStudioOk", fn := fun _ => fun
  | [d] => { results := [.lit (.bool false)], args := [d] }
  | _ => none }
def FnExactStudioOkWrongFalsely : Prop := fnExactStudioOkRow.holds Tryz.pinned (OpenSpec.ofChange fnExactStudioOkWrong)

/-- 'laws.FnExactIsComplete': WHATEVER THE INPUT: true; the input reads as it did. -/
def fnExactIsCompleteSpec : ChangeSpec := { name := "fnExactIsComplete", fn := fun _ => fun
  | [d] => { results := [.lit (.bool true)], args := [d] }
  | _ => none }
def fnExactIsCompleteRow : OpenClaim := { program := "ytoknmjpnelbplaagreat", sum := "39712ba717687eb71dd3d70246ccf57bc48cb713e797b823daf63bdfdcce1c2f", func := "loop.example/g03303/laws.FnExactIsComplete", spec := "fnExactIsComplete", unfollowed := true, recurses := true, apart := false }
def FnExactIsCompleteSaid : Prop := fnExactIsCompleteRow.holds Tryz.pinned (OpenSpec.ofChange fnExactIsCompleteSpec)

/-- ITS FALSE NEIGHBOUR: 'it returns false'. Refute it at one input. -/
def fnExactIsCompleteWrong : ChangeSpec := { name := "fnExactIsComplete", fn := fun _ => fun
  | [d] => { results := [.lit (.bool false)], args := [d] }
  | _ => none }
def FnExactIsCompleteWrongFalsely : Prop := fnExactIsCompleteRow.holds Tryz.pinned (OpenSpec.ofChange fnExactIsCompleteWrong)

/-- 'laws.FnExactSampleStudio': WHATEVER THE INPUT: true; the input reads as it did. -/
def fnExactSampleStudioSpec : ChangeSpec := { name := "fnExactSampleStudio", fn := fun _ => fun
  | [] => { results := [.lit (.bool true)], args := [] }
  | _ => none }
def fnExactSampleStudioRow : OpenClaim := { program := "ytoknmjpnelbplaagreat", sum := "39712ba717687eb71dd3d70246ccf57bc48cb713e797b823daf63bdfdcce1c2f", func := "loop.example/g03303/laws.FnExactSampleStudio", spec := "fnExactSampleStudio", unfollowed := true, recurses := true, apart := false }
def FnExactSampleStudioSaid : Prop := fnExactSampleStudioRow.holds Tryz.pinned (OpenSpec.ofChange fnExactSampleStudioSpec)

/-- ITS FALSE NEIGHBOUR: 'it returns false'. Refute it at one input. -/
def fnExactSampleStudioWrong : ChangeSpec := { name := "fnExactSampleStudio", fn := fun _ => fun
  | [] => { results := [.lit (.bool false)], args := [] }
  | _ => none }
def FnExactSampleStudioWrongFalsely : Prop := fnExactSampleStudioRow.holds Tryz.pinned (OpenSpec.ofChange fnExactSampleStudioWrong)

/-- 'laws.FnExactOpenStudio': WHATEVER THE INPUT: true; the input reads as it did. -/
def fnExactOpenStudioSpec : ChangeSpec := { name := "fnExactOpenStudio", fn := fun _ => fun
  | [d1, d2] => { results := [.lit (.bool true)], args := [d1, d2] }
  | _ => none }
def fnExactOpenStudioRow : OpenClaim := { program := "ytoknmjpnelbplaagreat", sum := "39712ba717687eb71dd3d70246ccf57bc48cb713e797b823daf63bdfdcce1c2f", func := "loop.example/g03303/laws.FnExactOpenStudio", spec := "fnExactOpenStudio", unfollowed := true, recurses := true, apart := false }
def FnExactOpenStudioSaid : Prop := fnExactOpenStudioRow.holds Tryz.pinned (OpenSpec.ofChange fnExactOpenStudioSpec)

/-- ITS FALSE NEIGHBOUR: 'it returns false'. Refute it at one input. -/
def fnExactOpenStudioWrong : ChangeSpec := { name := "fnExactOpenStudio", fn := fun _ => fun
  | [d1, d2] => { results := [.lit (.bool false)], args := [d1, d2] }
  | _ => none }
def FnExactOpenStudioWrongFalsely : Prop := fnExactOpenStudioRow.holds Tryz.pinned (OpenSpec.ofChange fnExactOpenStudioWrong)

/-- 'laws.FnExactUndoChange': WHATEVER THE INPUT: true; the input reads as it did. -/
def fnExactUndoChangeSpec : ChangeSpec := { name := "fnExactUndoChange", fn := fun _ => fun
  | [d] => { results := [.lit (.bool true)], args := [d] }
  | _ => none }
def fnExactUndoChangeRow : OpenClaim := { program := "ytoknmjpnelbplaagreat", sum := "39712ba717687eb71dd3d70246ccf57bc48cb713e797b823daf63bdfdcce1c2f", func := "loop.example/g03303/laws.FnExactUndoChange", spec := "fnExactUndoChange", unfollowed := true, recurses := true, apart := false }
def FnExactUndoChangeSaid : Prop := fnExactUndoChangeRow.holds Tryz.pinned (OpenSpec.ofChange fnExactUndoChangeSpec)

/-- ITS FALSE NEIGHBOUR: 'it returns false'. Refute it at one input. -/
def fnExactUndoChangeWrong : ChangeSpec := { name := "fnExactUndoChange", fn := fun _ => fun
  | [d] => { results := [.lit (.bool false)], args := [d] }
  | _ => none }
def FnExactUndoChangeWrongFalsely : Prop := fnExactUndoChangeRow.holds Tryz.pinned (OpenSpec.ofChange fnExactUndoChangeWrong)

/-- 'laws.FnExactChangeWindow': WHATEVER THE INPUT: true; the input reads as it did. -/
def fnExactChangeWindowSpec : ChangeSpec := { name := "fnExactChangeWindow", fn := fun _ => fun
  | [d1, d2, d3, d4] => { results := [.lit (.bool true)], args := [d1, d2, d3, d4] }
  | _ => none }
def fnExactChangeWindowRow : OpenClaim := { program := "ytoknmjpnelbplaagreat", sum := "39712ba717687eb71dd3d70246ccf57bc48cb713e797b823daf63bdfdcce1c2f", func := "loop.example/g03303/laws.FnExactChangeWindow", spec := "fnExactChangeWindow", unfollowed := true, recurses := true, apart := false }
def FnExactChangeWindowSaid : Prop := fnExactChangeWindowRow.holds Tryz.pinned (OpenSpec.ofChange fnExactChangeWindowSpec)

/-- ITS FALSE NEIGHBOUR: 'it returns false'. Refute it at one input. -/
def fnExactChangeWindowWrong : ChangeSpec := { name := "fnExactChangeWindow", fn := fun _ => fun
  | [d1, d2, d3, d4] => { results := [.lit (.bool false)], args := [d1, d2, d3, d4] }
  | _ => none }
def FnExactChangeWindowWrongFalsely : Prop := fnExactChangeWindowRow.holds Tryz.pinned (OpenSpec.ofChange fnExactChangeWindowWrong)

/-- 'laws.FnExactFetchPane': WHATEVER THE INPUT: true; the input reads as it did. -/
def fnExactFetchPaneSpec : ChangeSpec := { name := "fnExactFetchPane", fn := fun _ => fun
  | [d1, d2] => { results := [.lit (.bool true)], args := [d1, d2] }
  | _ => none }
def fnExactFetchPaneRow : OpenClaim := { program := "ytoknmjpnelbplaagreat", sum := "39712ba717687eb71dd3d70246ccf57bc48cb713e797b823daf63bdfdcce1c2f", func := "loop.example/g03303/laws.FnExactFetchPane", spec := "fnExactFetchPane", unfollowed := true, recurses := true, apart := false }
def FnExactFetchPaneSaid : Prop := fnExactFetchPaneRow.holds Tryz.pinned (OpenSpec.ofChange fnExactFetchPaneSpec)

/-- ITS FALSE NEIGHBOUR: 'it returns false'. Refute it at one input. -/
def fnExactFetchPaneWrong : ChangeSpec := { name := "fnExactFetchPane", fn := fun _ => fun
  | [d1, d2] => { results := [.lit (.bool false)], args := [d1, d2] }
  | _ => none }
def FnExactFetchPaneWrongFalsely : Prop := fnExactFetchPaneRow.holds Tryz.pinned (OpenSpec.ofChange fnExactFetchPaneWrong)

/-- 'laws.FnExactSwapColors': WHATEVER THE INPUT: true; the input reads as it did. -/
def fnExactSwapColorsSpec : ChangeSpec := { name := "fnExactSwapColors", fn := fun _ => fun
  | [d1, d2, d3] => { results := [.lit (.bool true)], args := [d1, d2, d3] }
  | _ => none }
def fnExactSwapColorsRow : OpenClaim := { program := "ytoknmjpnelbplaagreat", sum := "39712ba717687eb71dd3d70246ccf57bc48cb713e797b823daf63bdfdcce1c2f", func := "loop.example/g03303/laws.FnExactSwapColors", spec := "fnExactSwapColors", unfollowed := true, recurses := true, apart := false }
def FnExactSwapColorsSaid : Prop := fnExactSwapColorsRow.holds Tryz.pinned (OpenSpec.ofChange fnExactSwapColorsSpec)

/-- ITS FALSE NEIGHBOUR: 'it returns false'. Refute it at one input. -/
def fnExactSwapColorsWrong : ChangeSpec := { name := "fnExactSwapColors", fn := fun _ => fun
  | [d1, d2, d3] => { results := [.lit (.bool false)], args := [d1, d2, d3] }
  | _ => none }
def FnExactSwapColorsWrongFalsely : Prop := fnExactSwapColorsRow.holds Tryz.pinned (OpenSpec.ofChange fnExactSwapColorsWrong)

/-- 'laws.FnExactColorAll': WHATEVER THE INPUT: true; the input reads as it did. -/
def fnExactColorAllSpec : ChangeSpec := { name := "fnExactColorAll", fn := fun _ => fun
  | [d1, d2] => { results := [.lit (.bool true)], args := [d1, d2] }
  | _ => none }
def fnExactColorAllRow : OpenClaim := { program := "ytoknmjpnelbplaagreat", sum := "39712ba717687eb71dd3d70246ccf57bc48cb713e797b823daf63bdfdcce1c2f", func := "loop.example/g03303/laws.FnExactColorAll", spec := "fnExactColorAll", unfollowed := true, recurses := true, apart := false }
def FnExactColorAllSaid : Prop := fnExactColorAllRow.holds Tryz.pinned (OpenSpec.ofChange fnExactColorAllSpec)

/-- ITS FALSE NEIGHBOUR: 'it returns false'. Refute it at one input. -/
def fnExactColorAllWrong : ChangeSpec := { name := "fnExactColorAll", fn := fun _ => fun
  | [d1, d2] => { results := [.lit (.bool false)], args := [d1, d2] }
  | _ => none }
def FnExactColorAllWrongFalsely : Prop := fnExactColorAllRow.holds Tryz.pinned (OpenSpec.ofChange fnExactColorAllWrong)

/-- 'laws.FnExactStorePane': WHATEVER THE INPUT: true; the input reads as it did. -/
def fnExactStorePaneSpec : ChangeSpec := { name := "fnExactStorePane", fn := fun _ => fun
  | [d1, d2, d3] => { results := [.lit (.bool true)], args := [d1, d2, d3] }
  | _ => none }
def fnExactStorePaneRow : OpenClaim := { program := "ytoknmjpnelbplaagreat", sum := "39712ba717687eb71dd3d70246ccf57bc48cb713e797b823daf63bdfdcce1c2f", func := "loop.example/g03303/laws.FnExactStorePane", spec := "fnExactStorePane", unfollowed := true, recurses := true, apart := false }
def FnExactStorePaneSaid : Prop := fnExactStorePaneRow.holds Tryz.pinned (OpenSpec.ofChange fnExactStorePaneSpec)

/-- ITS FALSE NEIGHBOUR: 'it returns false'. Refute it at one input. -/
def fnExactStorePaneWrong : ChangeSpec := { name := "fnExactStorePane", fn := fun _ => fun
  | [d1, d2, d3] => { results := [.lit (.bool false)], args := [d1, d2, d3] }
  | _ => none }
def FnExactStorePaneWrongFalsely : Prop := fnExactStorePaneRow.holds Tryz.pinned (OpenSpec.ofChange fnExactStorePaneWrong)

/-- 'laws.FnExactDoAct': WHATEVER THE INPUT: true; the input reads as it did. -/
def fnExactDoActSpec : ChangeSpec := { name := "fnExactDoAct", fn := fun _ => fun
  | [d1, d2] => { results := [.lit (.bool true)], args := [d1, d2] }
  | _ => none }
def fnExactDoActRow : OpenClaim := { program := "ytoknmjpnelbplaagreat", sum := "39712ba717687eb71dd3d70246ccf57bc48cb713e797b823daf63bdfdcce1c2f", func := "loop.example/g03303/laws.FnExactDoAct", spec := "fnExactDoAct", unfollowed := true, recurses := true, apart := false }
def FnExactDoActSaid : Prop := fnExactDoActRow.holds Tryz.pinned (OpenSpec.ofChange fnExactDoActSpec)

/-- ITS FALSE NEIGHBOUR: 'it returns false'. Refute it at one input. -/
def fnExactDoActWrong : ChangeSpec := { name := "fnExactDoAct", fn := fun _ => fun
  | [d1, d2] => { results := [.lit (.bool false)], args := [d1, d2] }
  | _ => none }
def FnExactDoActWrongFalsely : Prop := fnExactDoActRow.holds Tryz.pinned (OpenSpec.ofChange fnExactDoActWrong)

/-- 'laws.FnExactRunActs': WHATEVER THE INPUT: true; the input reads as it did. -/
def fnExactRunActsSpec : ChangeSpec := { name := "fnExactRunActs", fn := fun _ => fun
  | [d1, d2] => { results := [.lit (.bool true)], args := [d1, d2] }
  | _ => none }
def fnExactRunActsRow : OpenClaim := { program := "ytoknmjpnelbplaagreat", sum := "39712ba717687eb71dd3d70246ccf57bc48cb713e797b823daf63bdfdcce1c2f", func := "loop.example/g03303/laws.FnExactRunActs", spec := "fnExactRunActs", unfollowed := true, recurses := true, apart := false }
def FnExactRunActsSaid : Prop := fnExactRunActsRow.holds Tryz.pinned (OpenSpec.ofChange fnExactRunActsSpec)

/-- ITS FALSE NEIGHBOUR: 'it returns false'. Refute it at one input. -/
def fnExactRunActsWrong : ChangeSpec := { name := "fnExactRunActs", fn := fun _ => fun
  | [d1, d2] => { results := [.lit (.bool false)], args := [d1, d2] }
  | _ => none }
def FnExactRunActsWrongFalsely : Prop := fnExactRunActsRow.holds Tryz.pinned (OpenSpec.ofChange fnExactRunActsWrong)

/- THE SECOND FORM. 'bulk': how many values and letters a reading holds, each counted each time it is reached (what is shared counts as often as it is met; a slice's spare places count too). A statement '..UptoSaid' is the law's where the arguments, and the package variables that the reading takes, are together of bulk at most 1048576: NARROWER than '..Said'. Prove '..Said' where nothing that the law and all that it calls make is longer than what came in: it says more and counts as full. Else prove '..UptoSaid'. A law counts once. -/
mutual
def uptoBulk {H : Type} : DataW H → Nat
  | .lit (.string bytes) => bytes.length + 1
  | .lit _ => 1
  | .nil => 1
  | .ptr d => uptoBulk d + 1
  | .slice elems spare => uptoBulkAll elems + uptoBulkAll spare + 1
  | .agg parts => uptoBulkAll parts + 1
  | .iface _ d => uptoBulk d + 1
  | .map entries => uptoBulkEntries entries + 1
  | .held _ => 1
def uptoBulkAll {H : Type} : List (DataW H) → Nat
  | [] => 0
  | d :: r => uptoBulk d + uptoBulkAll r
def uptoBulkEntries {H : Type} : List (Lit × DataW H) → Nat
  | [] => 0
  | x :: r => uptoBulkEntry x + uptoBulkEntries r
def uptoBulkEntry {H : Type} : Lit × DataW H → Nat
  | (.string bytes, d) => bytes.length + uptoBulk d + 1
  | (_, d) => uptoBulk d + 1
 end
def uptoSmall : (H : Type) → List (DataW H) → Bool := fun _ ds => decide (uptoBulkAll ds ≤ 1048576)
def OpenSpec.upto (s : _root_.Go.ChangeSpec) : _root_.Go.OpenSpec := { _root_.Go.OpenSpec.ofChange s with cond := some uptoSmall }

/-- 'laws.FnExactStudioOk', WHERE WHAT IT READS IS OF BULK AT MOST 1048576: true; the input reads as it did. -/
def fnExactStudioOkUptoRow : OpenClaim := { program := "ytoknmjpnelbplaagreat", sum := "39712ba717687eb71dd3d70246ccf57bc48cb713e797b823daf63bdfdcce1c2f", func := "loop.example/g03303/laws.FnExactStudioOk", spec := "fnExactStudioOk", unfollowed := true, recurses := true, apart := false, narrowed := true }
def FnExactStudioOkUptoSaid : Prop := fnExactStudioOkUptoRow.holds Tryz.pinned (OpenSpec.upto fnExactStudioOkSpec)

/-- 'laws.FnExactIsComplete', WHERE WHAT IT READS IS OF BULK AT MOST 1048576: true; the input reads as it did. -/
def fnExactIsCompleteUptoRow : OpenClaim := { program := "ytoknmjpnelbplaagreat", sum := "39712ba717687eb71dd3d70246ccf57bc48cb713e797b823daf63bdfdcce1c2f", func := "loop.example/g03303/laws.FnExactIsComplete", spec := "fnExactIsComplete", unfollowed := true, recurses := true, apart := false, narrowed := true }
def FnExactIsCompleteUptoSaid : Prop := fnExactIsCompleteUptoRow.holds Tryz.pinned (OpenSpec.upto fnExactIsCompleteSpec)

/-- 'laws.FnExactSampleStudio', WHERE WHAT IT READS IS OF BULK AT MOST 1048576: true; the input reads as it did. -/
def fnExactSampleStudioUptoRow : OpenClaim := { program := "ytoknmjpnelbplaagreat", sum := "39712ba717687eb71dd3d70246ccf57bc48cb713e797b823daf63bdfdcce1c2f", func := "loop.example/g03303/laws.FnExactSampleStudio", spec := "fnExactSampleStudio", unfollowed := true, recurses := true, apart := false, narrowed := true }
def FnExactSampleStudioUptoSaid : Prop := fnExactSampleStudioUptoRow.holds Tryz.pinned (OpenSpec.upto fnExactSampleStudioSpec)

/-- 'laws.FnExactOpenStudio', WHERE WHAT IT READS IS OF BULK AT MOST 1048576: true; the input reads as it did. -/
def fnExactOpenStudioUptoRow : OpenClaim := { program := "ytoknmjpnelbplaagreat", sum := "39712ba717687eb71dd3d70246ccf57bc48cb713e797b823daf63bdfdcce1c2f", func := "loop.example/g03303/laws.FnExactOpenStudio", spec := "fnExactOpenStudio", unfollowed := true, recurses := true, apart := false, narrowed := true }
def FnExactOpenStudioUptoSaid : Prop := fnExactOpenStudioUptoRow.holds Tryz.pinned (OpenSpec.upto fnExactOpenStudioSpec)

/-- 'laws.FnExactUndoChange', WHERE WHAT IT READS IS OF BULK AT MOST 1048576: true; the input reads as it did. -/
def fnExactUndoChangeUptoRow : OpenClaim := { program := "ytoknmjpnelbplaagreat", sum := "39712ba717687eb71dd3d70246ccf57bc48cb713e797b823daf63bdfdcce1c2f", func := "loop.example/g03303/laws.FnExactUndoChange", spec := "fnExactUndoChange", unfollowed := true, recurses := true, apart := false, narrowed := true }
def FnExactUndoChangeUptoSaid : Prop := fnExactUndoChangeUptoRow.holds Tryz.pinned (OpenSpec.upto fnExactUndoChangeSpec)

/-- 'laws.FnExactChangeWindow', WHERE WHAT IT READS IS OF BULK AT MOST 1048576: true; the input reads as it did. -/
def fnExactChangeWindowUptoRow : OpenClaim := { program := "ytoknmjpnelbplaagreat", sum := "39712ba717687eb71dd3d70246ccf57bc48cb713e797b823daf63bdfdcce1c2f", func := "loop.example/g03303/laws.FnExactChangeWindow", spec := "fnExactChangeWindow", unfollowed := true, recurses := true, apart := false, narrowed := true }
def FnExactChangeWindowUptoSaid : Prop := fnExactChangeWindowUptoRow.holds Tryz.pinned (OpenSpec.upto fnExactChangeWindowSpec)

/-- 'laws.FnExactFetchPane', WHERE WHAT IT READS IS OF BULK AT MOST 1048576: true; the input reads as it did. -/
def fnExactFetchPaneUptoRow : OpenClaim := { program := "ytoknmjpnelbplaagreat", sum := "39712ba717687eb71dd3d70246ccf57bc48cb713e797b823daf63bdfdcce1c2f", func := "loop.example/g03303/laws.FnExactFetchPane", spec := "fnExactFetchPane", unfollowed := true, recurses := true, apart := false, narrowed := true }
def FnExactFetchPaneUptoSaid : Prop := fnExactFetchPaneUptoRow.holds Tryz.pinned (OpenSpec.upto fnExactFetchPaneSpec)

/-- 'laws.FnExactSwapColors', WHERE WHAT IT READS IS OF BULK AT MOST 1048576: true; the input reads as it did. -/
def fnExactSwapColorsUptoRow : OpenClaim := { program := "ytoknmjpnelbplaagreat", sum := "39712ba717687eb71dd3d70246ccf57bc48cb713e797b823daf63bdfdcce1c2f", func := "loop.example/g03303/laws.FnExactSwapColors", spec := "fnExactSwapColors", unfollowed := true, recurses := true, apart := false, narrowed := true }
def FnExactSwapColorsUptoSaid : Prop := fnExactSwapColorsUptoRow.holds Tryz.pinned (OpenSpec.upto fnExactSwapColorsSpec)

/-- 'laws.FnExactColorAll', WHERE WHAT IT READS IS OF BULK AT MOST 1048576: true; the input reads as it did. -/
def fnExactColorAllUptoRow : OpenClaim := { program := "ytoknmjpnelbplaagreat", sum := "39712ba717687eb71dd3d70246ccf57bc48cb713e797b823daf63bdfdcce1c2f", func := "loop.example/g03303/laws.FnExactColorAll", spec := "fnExactColorAll", unfollowed := true, recurses := true, apart := false, narrowed := true }
def FnExactColorAllUptoSaid : Prop := fnExactColorAllUptoRow.holds Tryz.pinned (OpenSpec.upto fnExactColorAllSpec)

/-- 'laws.FnExactStorePane', WHERE WHAT IT READS IS OF BULK AT MOST 1048576: true; the input reads as it did. -/
def fnExactStorePaneUptoRow : OpenClaim := { program := "ytoknmjpnelbplaagreat", sum := "39712ba717687eb71dd3d70246ccf57bc48cb713e797b823daf63bdfdcce1c2f", func := "loop.example/g03303/laws.FnExactStorePane", spec := "fnExactStorePane", unfollowed := true, recurses := true, apart := false, narrowed := true }
def FnExactStorePaneUptoSaid : Prop := fnExactStorePaneUptoRow.holds Tryz.pinned (OpenSpec.upto fnExactStorePaneSpec)

/-- 'laws.FnExactDoAct', WHERE WHAT IT READS IS OF BULK AT MOST 1048576: true; the input reads as it did. -/
def fnExactDoActUptoRow : OpenClaim := { program := "ytoknmjpnelbplaagreat", sum := "39712ba717687eb71dd3d70246ccf57bc48cb713e797b823daf63bdfdcce1c2f", func := "loop.example/g03303/laws.FnExactDoAct", spec := "fnExactDoAct", unfollowed := true, recurses := true, apart := false, narrowed := true }
def FnExactDoActUptoSaid : Prop := fnExactDoActUptoRow.holds Tryz.pinned (OpenSpec.upto fnExactDoActSpec)

/-- 'laws.FnExactRunActs', WHERE WHAT IT READS IS OF BULK AT MOST 1048576: true; the input reads as it did. -/
def fnExactRunActsUptoRow : OpenClaim := { program := "ytoknmjpnelbplaagreat", sum := "39712ba717687eb71dd3d70246ccf57bc48cb713e797b823daf63bdfdcce1c2f", func := "loop.example/g03303/laws.FnExactRunActs", spec := "fnExactRunActs", unfollowed := true, recurses := true, apart := false, narrowed := true }
def FnExactRunActsUptoSaid : Prop := fnExactRunActsUptoRow.holds Tryz.pinned (OpenSpec.upto fnExactRunActsSpec)

end Rows
end Go.Proofs.YtoknmjpnelbplaaGreat
