/-
  No cell of these rows narrows 'for every input' (looked for: loops, veiled, ifaces, maps, wideKeys, modest, calm, conditions, laid).
  DERIVED. THE GIVEN ROWS OF THIS SEAT. 10 by the template 'for every input the law returns true; each argument reads behind the call as it read before'; 0 by the template 'total and deterministic' (their statements: YtnjcpljhmhdhkaaGreatTotals.lean).
  GIVEN WITH THE SEED: the statements are not yours to turn. If you find one false, say at which input.
  Laid BY PROGRAM, IN A SANDBOX (cutbox-rows.mjs): the forced cells as the released guide's own fill.sh prints them over the translation cd9b0bf8054841b1… (all of the seat's roots in one cut). By AI agents, Wed Nov 11 2026. No macro, syntax, notation, axiom, sorry.
-/
import Derived.Test.YtnjcpljhmhdhkaaGreatChecked
import GoSem.Claim
import GoSem.ClaimJoined
import GoSem.ClaimMapViews
import Derived.JoinedTies
import Derived.KernelRfl
namespace Go.Proofs.YtnjcpljhmhdhkaaGreat
/- THE CELL 'sum', in the pinned program and in every row, IS THE sha256 OF THE DUMP (.gsa) THAT YtnjcpljhmhdhkaaGreatProg.lean LOADS. Nothing in Lean hashes anything: it is a label: what it is worth is what the hold of that sum in a sandbox is worth. -/
noncomputable def Tryz.pinned : Pinned := { name := "ytnjcpljhmhdhkaagreat", sum := "cd9b0bf8054841b19f0a7781379d1f72cb761f4d5f12a7bf93c921facc84e42d", checked := Tryz.checked }
namespace Rows
def none {H : Type} : Left H := { results := [], args := [] }

/-- 'laws.FnTop': WHATEVER THE INPUT: true; the input reads as it did. -/
def fnTopSpec : ChangeSpec := { name := "fnTop", fn := fun _ => fun
  | [d] => { results := [.lit (.bool true)], args := [d] }
  | _ => none }
def fnTopRow : OpenClaim := { program := "ytnjcpljhmhdhkaagreat", sum := "cd9b0bf8054841b19f0a7781379d1f72cb761f4d5f12a7bf93c921facc84e42d", func := "loop.example/g03303/laws.FnTop", spec := "fnTop", unfollowed := true, recurses := true, apart := false }
def FnTopSaid : Prop := fnTopRow.holds Tryz.pinned (OpenSpec.ofChange fnTopSpec)

/-- ITS FALSE NEIGHBOUR: 'it returns false'. Refute it at one input. -/
def fnTopWrong : ChangeSpec := { name := "fnTop", fn := fun _ => fun
  | [d] => { results := [.lit (.bool false)], args := [d] }
  | _ => none }
def FnTopWrongFalsely : Prop := fnTopRow.holds Tryz.pinned (OpenSpec.ofChange fnTopWrong)

/-- 'laws.FnExactSwapColors': WHATEVER THE INPUT: true; the input reads as it did. -/
def fnExactSwapColorsSpec : ChangeSpec := { name := "fnExactSwapColors", fn := fun _ => fun
  | [d1, d2, d3] => { results := [.lit (.bool true)], args := [d1, d2, d3] }
  | _ => none }
def fnExactSwapColorsRow : OpenClaim := { program := "ytnjcpljhmhdhkaagreat", sum := "cd9b0bf8054841b19f0a7781379d1f72cb761f4d5f12a7bf93c921facc84e42d", func := "loop.example/g03303/laws.FnExactSwapColors", spec := "fnExactSwapColors", unfollowed := true, recurses := true, apart := false }
def FnExactSwapColorsSaid : Prop := fnExactSwapColorsRow.holds Tryz.pinned (OpenSpec.ofChange fnExactSwapColorsSpec)

/-- ITS FALSE NEIGHBOUR: 'it returns false'. Refute it at one input. -/
def fnExactSwapColorsWrong : ChangeSpec := { name := "fnExactSwapColors", fn := fun _ => fun
  | [d1, d2, d3] => { results := [.lit (.bool false)], args := [d1, d2, d3] }
  | _ => none }
def FnExactSwapColorsWrongFalsely : Prop := fnExactSwapColorsRow.holds Tryz.pinned (OpenSpec.ofChange fnExactSwapColorsWrong)

/-- 'laws.FnExactColorAll': WHATEVER THE INPUT: true; the input reads as it did. -/
def fnExactColorAllSpec : ChangeSpec := { name := "fnExactColorAll", fn := fun _ => fun
  | [d1, d2] => { results := [.lit (.bool true)], args := [d1, d2] }
  | _ => none }
def fnExactColorAllRow : OpenClaim := { program := "ytnjcpljhmhdhkaagreat", sum := "cd9b0bf8054841b19f0a7781379d1f72cb761f4d5f12a7bf93c921facc84e42d", func := "loop.example/g03303/laws.FnExactColorAll", spec := "fnExactColorAll", unfollowed := true, recurses := true, apart := false }
def FnExactColorAllSaid : Prop := fnExactColorAllRow.holds Tryz.pinned (OpenSpec.ofChange fnExactColorAllSpec)

/-- ITS FALSE NEIGHBOUR: 'it returns false'. Refute it at one input. -/
def fnExactColorAllWrong : ChangeSpec := { name := "fnExactColorAll", fn := fun _ => fun
  | [d1, d2] => { results := [.lit (.bool false)], args := [d1, d2] }
  | _ => none }
def FnExactColorAllWrongFalsely : Prop := fnExactColorAllRow.holds Tryz.pinned (OpenSpec.ofChange fnExactColorAllWrong)

/-- 'laws.FnStudios': WHATEVER THE INPUT: true; the input reads as it did. -/
def fnStudiosSpec : ChangeSpec := { name := "fnStudios", fn := fun _ => fun
  | [d] => { results := [.lit (.bool true)], args := [d] }
  | _ => none }
def fnStudiosRow : OpenClaim := { program := "ytnjcpljhmhdhkaagreat", sum := "cd9b0bf8054841b19f0a7781379d1f72cb761f4d5f12a7bf93c921facc84e42d", func := "loop.example/g03303/laws.FnStudios", spec := "fnStudios", unfollowed := true, recurses := true, apart := false }
def FnStudiosSaid : Prop := fnStudiosRow.holds Tryz.pinned (OpenSpec.ofChange fnStudiosSpec)

/-- ITS FALSE NEIGHBOUR: 'it returns false'. Refute it at one input. -/
def fnStudiosWrong : ChangeSpec := { name := "fnStudios", fn := fun _ => fun
  | [d] => { results := [.lit (.bool false)], args := [d] }
  | _ => none }
def FnStudiosWrongFalsely : Prop := fnStudiosRow.holds Tryz.pinned (OpenSpec.ofChange fnStudiosWrong)

/-- 'laws.FnExactStorePane': WHATEVER THE INPUT: true; the input reads as it did. -/
def fnExactStorePaneSpec : ChangeSpec := { name := "fnExactStorePane", fn := fun _ => fun
  | [d1, d2, d3] => { results := [.lit (.bool true)], args := [d1, d2, d3] }
  | _ => none }
def fnExactStorePaneRow : OpenClaim := { program := "ytnjcpljhmhdhkaagreat", sum := "cd9b0bf8054841b19f0a7781379d1f72cb761f4d5f12a7bf93c921facc84e42d", func := "loop.example/g03303/laws.FnExactStorePane", spec := "fnExactStorePane", unfollowed := true, recurses := true, apart := false }
def FnExactStorePaneSaid : Prop := fnExactStorePaneRow.holds Tryz.pinned (OpenSpec.ofChange fnExactStorePaneSpec)

/-- ITS FALSE NEIGHBOUR: 'it returns false'. Refute it at one input. -/
def fnExactStorePaneWrong : ChangeSpec := { name := "fnExactStorePane", fn := fun _ => fun
  | [d1, d2, d3] => { results := [.lit (.bool false)], args := [d1, d2, d3] }
  | _ => none }
def FnExactStorePaneWrongFalsely : Prop := fnExactStorePaneRow.holds Tryz.pinned (OpenSpec.ofChange fnExactStorePaneWrong)

/-- 'laws.FnReplays': WHATEVER THE INPUT: true; the input reads as it did. -/
def fnReplaysSpec : ChangeSpec := { name := "fnReplays", fn := fun _ => fun
  | [d] => { results := [.lit (.bool true)], args := [d] }
  | _ => none }
def fnReplaysRow : OpenClaim := { program := "ytnjcpljhmhdhkaagreat", sum := "cd9b0bf8054841b19f0a7781379d1f72cb761f4d5f12a7bf93c921facc84e42d", func := "loop.example/g03303/laws.FnReplays", spec := "fnReplays", unfollowed := true, recurses := true, apart := false }
def FnReplaysSaid : Prop := fnReplaysRow.holds Tryz.pinned (OpenSpec.ofChange fnReplaysSpec)

/-- ITS FALSE NEIGHBOUR: 'it returns false'. Refute it at one input. -/
def fnReplaysWrong : ChangeSpec := { name := "fnReplays", fn := fun _ => fun
  | [d] => { results := [.lit (.bool false)], args := [d] }
  | _ => none }
def FnReplaysWrongFalsely : Prop := fnReplaysRow.holds Tryz.pinned (OpenSpec.ofChange fnReplaysWrong)

/-- 'laws.FnScenarios': WHATEVER THE INPUT: true; the input reads as it did. -/
def fnScenariosSpec : ChangeSpec := { name := "fnScenarios", fn := fun _ => fun
  | [d] => { results := [.lit (.bool true)], args := [d] }
  | _ => none }
def fnScenariosRow : OpenClaim := { program := "ytnjcpljhmhdhkaagreat", sum := "cd9b0bf8054841b19f0a7781379d1f72cb761f4d5f12a7bf93c921facc84e42d", func := "loop.example/g03303/laws.FnScenarios", spec := "fnScenarios", unfollowed := true, recurses := true, apart := false }
def FnScenariosSaid : Prop := fnScenariosRow.holds Tryz.pinned (OpenSpec.ofChange fnScenariosSpec)

/-- ITS FALSE NEIGHBOUR: 'it returns false'. Refute it at one input. -/
def fnScenariosWrong : ChangeSpec := { name := "fnScenarios", fn := fun _ => fun
  | [d] => { results := [.lit (.bool false)], args := [d] }
  | _ => none }
def FnScenariosWrongFalsely : Prop := fnScenariosRow.holds Tryz.pinned (OpenSpec.ofChange fnScenariosWrong)

/-- 'laws.FnExactIsReplay': WHATEVER THE INPUT: true; the input reads as it did. -/
def fnExactIsReplaySpec : ChangeSpec := { name := "fnExactIsReplay", fn := fun _ => fun
  | [d1, d2, d3] => { results := [.lit (.bool true)], args := [d1, d2, d3] }
  | _ => none }
def fnExactIsReplayRow : OpenClaim := { program := "ytnjcpljhmhdhkaagreat", sum := "cd9b0bf8054841b19f0a7781379d1f72cb761f4d5f12a7bf93c921facc84e42d", func := "loop.example/g03303/laws.FnExactIsReplay", spec := "fnExactIsReplay", unfollowed := true, recurses := true, apart := false }
def FnExactIsReplaySaid : Prop := fnExactIsReplayRow.holds Tryz.pinned (OpenSpec.ofChange fnExactIsReplaySpec)

/-- ITS FALSE NEIGHBOUR: 'it returns false'. Refute it at one input. -/
def fnExactIsReplayWrong : ChangeSpec := { name := "fnExactIsReplay", fn := fun _ => fun
  | [d1, d2, d3] => { results := [.lit (.bool false)], args := [d1, d2, d3] }
  | _ => none }
def FnExactIsReplayWrongFalsely : Prop := fnExactIsReplayRow.holds Tryz.pinned (OpenSpec.ofChange fnExactIsReplayWrong)

/-- 'laws.FnExactDoAct': WHATEVER THE INPUT: true; the input reads as it did. -/
def fnExactDoActSpec : ChangeSpec := { name := "fnExactDoAct", fn := fun _ => fun
  | [d1, d2] => { results := [.lit (.bool true)], args := [d1, d2] }
  | _ => none }
def fnExactDoActRow : OpenClaim := { program := "ytnjcpljhmhdhkaagreat", sum := "cd9b0bf8054841b19f0a7781379d1f72cb761f4d5f12a7bf93c921facc84e42d", func := "loop.example/g03303/laws.FnExactDoAct", spec := "fnExactDoAct", unfollowed := true, recurses := true, apart := false }
def FnExactDoActSaid : Prop := fnExactDoActRow.holds Tryz.pinned (OpenSpec.ofChange fnExactDoActSpec)

/-- ITS FALSE NEIGHBOUR: 'it returns false'. Refute it at one input. -/
def fnExactDoActWrong : ChangeSpec := { name := "fnExactDoAct", fn := fun _ => fun
  | [d1, d2] => { results := [.lit (.bool false)], args := [d1, d2] }
  | _ => none }
def FnExactDoActWrongFalsely : Prop := fnExactDoActRow.holds Tryz.pinned (OpenSpec.ofChange fnExactDoActWrong)

/-- 'laws.FnExactRunActs': WHATEVER THE INPUT: true; the input reads as it did. -/
def fnExactRunActsSpec : ChangeSpec := { name := "fnExactRunActs", fn := fun _ => fun
  | [d1, d2] => { results := [.lit (.bool true)], args := [d1, d2] }
  | _ => none }
def fnExactRunActsRow : OpenClaim := { program := "ytnjcpljhmhdhkaagreat", sum := "cd9b0bf8054841b19f0a7781379d1f72cb761f4d5f12a7bf93c921facc84e42d", func := "loop.example/g03303/laws.FnExactRunActs", spec := "fnExactRunActs", unfollowed := true, recurses := true, apart := false }
def FnExactRunActsSaid : Prop := fnExactRunActsRow.holds Tryz.pinned (OpenSpec.ofChange fnExactRunActsSpec)

/-- ITS FALSE NEIGHBOUR: 'it returns false'. Refute it at one input. -/
def fnExactRunActsWrong : ChangeSpec := { name := "fnExactRunActs", fn := fun _ => fun
  | [d1, d2] => { results := [.lit (.bool false)], args := [d1, d2] }
  | _ => none }
def FnExactRunActsWrongFalsely : Prop := fnExactRunActsRow.holds Tryz.pinned (OpenSpec.ofChange fnExactRunActsWrong)

/- THE SECOND FORM. 'bulk': how many values and letters a reading holds, each counted each time it is reached (what is shared counts as often as it is met; a slice's spare places count too). A statement '..UptoSaid' is the law's where the arguments, and the package variables that the reading takes, are together of bulk at most 1048576: NARROWER than '..Said'. Prove '..Said' where nothing that the law and all that it calls make is longer than what came in: it says more and counts as full. Else prove '..UptoSaid'. A law counts once. -/
mutual
def uptoBulk {H : Type} : DataW H → Nat
  | .lit (.string bytes) => bytes.length + 1
  | .lit _ => 1
  | .nil => 1
  | .ptr d => uptoBulk d + 1
  | .slice elems spare => uptoBulkAll elems + uptoBulkAll spare + 1
  | .agg parts => uptoBulkAll parts + 1
  | .iface _ d => uptoBulk d + 1
  | .map entries => uptoBulkEntries entries + 1
  | .held _ => 1
def uptoBulkAll {H : Type} : List (DataW H) → Nat
  | [] => 0
  | d :: r => uptoBulk d + uptoBulkAll r
def uptoBulkEntries {H : Type} : List (Lit × DataW H) → Nat
  | [] => 0
  | x :: r => uptoBulkEntry x + uptoBulkEntries r
def uptoBulkEntry {H : Type} : Lit × DataW H → Nat
  | (.string bytes, d) => bytes.length + uptoBulk d + 1
  | (_, d) => uptoBulk d + 1
 end
def uptoSmall : (H : Type) → List (DataW H) → Bool := fun _ ds => decide (uptoBulkAll ds ≤ 1048576)
def OpenSpec.upto (s : _root_.Go.ChangeSpec) : _root_.Go.OpenSpec := { _root_.Go.OpenSpec.ofChange s with cond := some uptoSmall }

/-- 'laws.FnTop', WHERE WHAT IT READS IS OF BULK AT MOST 1048576: true; the input reads as it did. -/
def fnTopUptoRow : OpenClaim := { program := "ytnjcpljhmhdhkaagreat", sum := "cd9b0bf8054841b19f0a7781379d1f72cb761f4d5f12a7bf93c921facc84e42d", func := "loop.example/g03303/laws.FnTop", spec := "fnTop", unfollowed := true, recurses := true, apart := false, narrowed := true }
def FnTopUptoSaid : Prop := fnTopUptoRow.holds Tryz.pinned (OpenSpec.upto fnTopSpec)

/-- 'laws.FnExactSwapColors', WHERE WHAT IT READS IS OF BULK AT MOST 1048576: true; the input reads as it did. -/
def fnExactSwapColorsUptoRow : OpenClaim := { program := "ytnjcpljhmhdhkaagreat", sum := "cd9b0bf8054841b19f0a7781379d1f72cb761f4d5f12a7bf93c921facc84e42d", func := "loop.example/g03303/laws.FnExactSwapColors", spec := "fnExactSwapColors", unfollowed := true, recurses := true, apart := false, narrowed := true }
def FnExactSwapColorsUptoSaid : Prop := fnExactSwapColorsUptoRow.holds Tryz.pinned (OpenSpec.upto fnExactSwapColorsSpec)

/-- 'laws.FnExactColorAll', WHERE WHAT IT READS IS OF BULK AT MOST 1048576: true; the input reads as it did. -/
def fnExactColorAllUptoRow : OpenClaim := { program := "ytnjcpljhmhdhkaagreat", sum := "cd9b0bf8054841b19f0a7781379d1f72cb761f4d5f12a7bf93c921facc84e42d", func := "loop.example/g03303/laws.FnExactColorAll", spec := "fnExactColorAll", unfollowed := true, recurses := true, apart := false, narrowed := true }
def FnExactColorAllUptoSaid : Prop := fnExactColorAllUptoRow.holds Tryz.pinned (OpenSpec.upto fnExactColorAllSpec)

/-- 'laws.FnStudios', WHERE WHAT IT READS IS OF BULK AT MOST 1048576: true; the input reads as it did. -/
def fnStudiosUptoRow : OpenClaim := { program := "ytnjcpljhmhdhkaagreat", sum := "cd9b0bf8054841b19f0a7781379d1f72cb761f4d5f12a7bf93c921facc84e42d", func := "loop.example/g03303/laws.FnStudios", spec := "fnStudios", unfollowed := true, recurses := true, apart := false, narrowed := true }
def FnStudiosUptoSaid : Prop := fnStudiosUptoRow.holds Tryz.pinned (OpenSpec.upto fnStudiosSpec)

/-- 'laws.FnExactStorePane', WHERE WHAT IT READS IS OF BULK AT MOST 1048576: true; the input reads as it did. -/
def fnExactStorePaneUptoRow : OpenClaim := { program := "ytnjcpljhmhdhkaagreat", sum := "cd9b0bf8054841b19f0a7781379d1f72cb761f4d5f12a7bf93c921facc84e42d", func := "loop.example/g03303/laws.FnExactStorePane", spec := "fnExactStorePane", unfollowed := true, recurses := true, apart := false, narrowed := true }
def FnExactStorePaneUptoSaid : Prop := fnExactStorePaneUptoRow.holds Tryz.pinned (OpenSpec.upto fnExactStorePaneSpec)

/-- 'laws.FnReplays', WHERE WHAT IT READS IS OF BULK AT MOST 1048576: true; the input reads as it did. -/
def fnReplaysUptoRow : OpenClaim := { program := "ytnjcpljhmhdhkaagreat", sum := "cd9b0bf8054841b19f0a7781379d1f72cb761f4d5f12a7bf93c921facc84e42d", func := "loop.example/g03303/laws.FnReplays", spec := "fnReplays", unfollowed := true, recurses := true, apart := false, narrowed := true }
def FnReplaysUptoSaid : Prop := fnReplaysUptoRow.holds Tryz.pinned (OpenSpec.upto fnReplaysSpec)

/-- 'laws.FnScenarios', WHERE WHAT IT READS IS OF BULK AT MOST 1048576: true; the input reads as it did. -/
def fnScenariosUptoRow : OpenClaim := { program := "ytnjcpljhmhdhkaagreat", sum := "cd9b0bf8054841b19f0a7781379d1f72cb761f4d5f12a7bf93c921facc84e42d", func := "loop.example/g03303/laws.FnScenarios", spec := "fnScenarios", unfollowed := true, recurses := true, apart := false, narrowed := true }
def FnScenariosUptoSaid : Prop := fnScenariosUptoRow.holds Tryz.pinned (OpenSpec.upto fnScenariosSpec)

/-- 'laws.FnExactIsReplay', WHERE WHAT IT READS IS OF BULK AT MOST 1048576: true; the input reads as it did. -/
def fnExactIsReplayUptoRow : OpenClaim := { program := "ytnjcpljhmhdhkaagreat", sum := "cd9b0bf8054841b19f0a7781379d1f72cb761f4d5f12a7bf93c921facc84e42d", func := "loop.example/g03303/laws.FnExactIsReplay", spec := "fnExactIsReplay", unfollowed := true, recurses := true, apart := false, narrowed := true }
def FnExactIsReplayUptoSaid : Prop := fnExactIsReplayUptoRow.holds Tryz.pinned (OpenSpec.upto fnExactIsReplaySpec)

/-- 'laws.FnExactDoAct', WHERE WHAT IT READS IS OF BULK AT MOST 1048576: true; the input reads as it did. -/
def fnExactDoActUptoRow : OpenClaim := { program := "ytnjcpljhmhdhkaagreat", sum := "cd9b0bf8054841b19f0a7781379d1f72cb761f4d5f12a7bf93c921facc84e42d", func := "loop.example/g03303/laws.FnExactDoAct", spec := "fnExactDoAct", unfollowed := true, recurses := true, apart := false, narrowed := true }
def FnExactDoActUptoSaid : Prop := fnExactDoActUptoRow.holds Tryz.pinned (OpenSpec.upto fnExactDoActSpec)

/-- 'laws.FnExactRunActs', WHERE WHAT IT READS IS OF BULK AT MOST 1048576: true; the input reads as it did. -/
def fnExactRunActsUptoRow : OpenClaim := { program := "ytnjcpljhmhdhkaagreat", sum := "cd9b0bf8054841b19f0a7781379d1f72cb761f4d5f12a7bf93c921facc84e42d", func := "loop.example/g03303/laws.FnExactRunActs", spec := "fnExactRunActs", unfollowed := true, recurses := true, apart := false, narrowed := true }
def FnExactRunActsUptoSaid : Prop := fnExactRunActsUptoRow.holds Tryz.pinned (OpenSpec.upto fnExactRunActsSpec)

end Rows
end Go.Proofs.YtnjcpljhmhdhkaaGreat
