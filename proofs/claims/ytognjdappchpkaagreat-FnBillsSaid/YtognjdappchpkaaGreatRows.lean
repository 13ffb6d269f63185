/-
  No cell of these rows narrows 'for every input' (looked for: loops, veiled, ifaces, maps, wideKeys, modest, calm, conditions, laid).
  DERIVED. THE GIVEN ROWS OF THIS SEAT. 3 by the template 'for every input the law returns true; each argument reads behind the call as it read before'; 0 by the template 'total and deterministic' (their statements: YtognjdappchpkaaGreatTotals.lean).
  GIVEN WITH THE SEED: the statements are not yours to turn. If you find one false, say at which input.
  Laid BY PROGRAM, IN A SANDBOX (cutbox-rows.mjs): the forced cells as the released guide's own fill.sh prints them over the translation a4ea1af051e465e9… (all of the seat's roots in one cut). By AI agents, Wed Nov 11 2026. No macro, syntax, notation, axiom, sorry.
-/
import Derived.Test.YtognjdappchpkaaGreatChecked
import GoSem.Claim
import GoSem.ClaimJoined
import GoSem.ClaimMapViews
import Derived.JoinedTies
import Derived.KernelRfl
namespace Go.Proofs.YtognjdappchpkaaGreat
/- THE CELL 'sum', in the pinned program and in every row, IS THE sha256 OF THE DUMP (.gsa) THAT YtognjdappchpkaaGreatProg.lean LOADS. Nothing in Lean hashes anything: it is a label: what it is worth is what the hold of that sum in a sandbox is worth. -/
noncomputable def Tryz.pinned : Pinned := { name := "ytognjdappchpkaagreat", sum := "a4ea1af051e465e986a5479cfc6fc065b2a6a01b91bbec89cc1749fc30b316d2", checked := Tryz.checked }
namespace Rows
def none {H : Type} : Left H := { results := [], args := [] }

/-- 'laws.FnExactBillOf': WHATEVER THE INPUT: true; the input reads as it did. -/
def fnExactBillOfSpec : ChangeSpec := { name := "fnExactBillOf", fn := fun _ => fun
  | [d1, d2, d3] => { results := [.lit (.bool true)], args := [d1, d2, d3] }
  | _ => none }
def fnExactBillOfRow : OpenClaim := { program := "ytognjdappchpkaagreat", sum := "a4ea1af051e465e986a5479cfc6fc065b2a6a01b91bbec89cc1749fc30b316d2", func := "loop.example/g03303/laws.FnExactBillOf", spec := "fnExactBillOf", unfollowed := true, recurses := true, apart := false }
def FnExactBillOfSaid : Prop := fnExactBillOfRow.holds Tryz.pinned (OpenSpec.ofChange fnExactBillOfSpec)

/-- ITS FALSE NEIGHBOUR: 'it returns false'. Refute it at one input. -/
def fnExactBillOfWrong : ChangeSpec := { name := "fnExactBillOf", fn := fun _ => fun
  | [d1, d2, d3] => { results := [.lit (.bool false)], args := [d1, d2, d3] }
  | _ => none }
def FnExactBillOfWrongFalsely : Prop := fnExactBillOfRow.holds Tryz.pinned (OpenSpec.ofChange fnExactBillOfWrong)

/-- 'laws.FnExactCheaperTariff': WHATEVER THE INPUT: true; the input reads as it did. -/
def fnExactCheaperTariffSpec : ChangeSpec := { name := "fnExactCheaperTariff", fn := fun _ => fun
  | [d1, d2, d3] => { results := [.lit (.bool true)], args := [d1, d2, d3] }
  | _ => none }
def fnExactCheaperTariffRow : OpenClaim := { program := "ytognjdappchpkaagreat", sum := "a4ea1af051e465e986a5479cfc6fc065b2a6a01b91bbec89cc1749fc30b316d2", func := "loop.example/g03303/laws.FnExactCheaperTariff", spec := "fnExactCheaperTariff", unfollowed := true, recurses := true, apart := false }
def FnExactCheaperTariffSaid : Prop := fnExactCheaperTariffRow.holds Tryz.pinned (OpenSpec.ofChange fnExactCheaperTariffSpec)

/-- ITS FALSE NEIGHBOUR: 'it returns false'. Refute it at one input. -/
def fnExactCheaperTariffWrong : ChangeSpec := { name := "fnExactCheaperTariff", fn := fun _ => fun
  | [d1, d2, d3] => { results := [.lit (.bool false)], args := [d1, d2, d3] }
  | _ => none }
def FnExactCheaperTariffWrongFalsely : Prop := fnExactCheaperTariffRow.holds Tryz.pinned (OpenSpec.ofChange fnExactCheaperTariffWrong)

/-- 'laws.FnBills': WHATEVER THE INPUT: true; the input reads as it did. -/
def fnBillsSpec : ChangeSpec := { name := "fnBills", fn := fun _ => fun
  | [d] => { results := [.lit (.bool true)], args := [d] }
  | _ => none }
def fnBillsRow : OpenClaim := { program := "ytognjdappchpkaagreat", sum := "a4ea1af051e465e986a5479cfc6fc065b2a6a01b91bbec89cc1749fc30b316d2", func := "loop.example/g03303/laws.FnBills", spec := "fnBills", unfollowed := true, recurses := true, apart := false }
def FnBillsSaid : Prop := fnBillsRow.holds Tryz.pinned (OpenSpec.ofChange fnBillsSpec)

/-- ITS FALSE NEIGHBOUR: 'it returns false'. Refute it at one input. -/
def fnBillsWrong : ChangeSpec := { name := "fnBills", fn := fun _ => fun
  | [d] => { results := [.lit (.bool false)], args := [d] }
  | _ => none }
def FnBillsWrongFalsely : Prop := fnBillsRow.holds Tryz.pinned (OpenSpec.ofChange fnBillsWrong)

/- THE SECOND FORM. 'bulk': how many values and letters a reading holds, each counted each time it is reached (what is shared counts as often as it is met; a slice's spare places count too). A statement '..UptoSaid' is the law's where the arguments, and the package variables that the reading takes, are together of bulk at most 1048576: NARROWER than '..Said'. Prove '..Said' where nothing that the law and all that it calls make is longer than what came in: it says more and counts as full. Else prove '..UptoSaid'. A law counts once. -/
mutual
def uptoBulk {H : Type} : DataW H → Nat
  | .lit (.string bytes) => bytes.length + 1
  | .lit _ => 1
  | .nil => 1
  | .ptr d => uptoBulk d + 1
  | .slice elems spare => uptoBulkAll elems + uptoBulkAll spare + 1
  | .agg parts => uptoBulkAll parts + 1
  | .iface _ d => uptoBulk d + 1
  | .map entries => uptoBulkEntries entries + 1
  | .held _ => 1
def uptoBulkAll {H : Type} : List (DataW H) → Nat
  | [] => 0
  | d :: r => uptoBulk d + uptoBulkAll r
def uptoBulkEntries {H : Type} : List (Lit × DataW H) → Nat
  | [] => 0
  | x :: r => uptoBulkEntry x + uptoBulkEntries r
def uptoBulkEntry {H : Type} : Lit × DataW H → Nat
  | (.string bytes, d) => bytes.length + uptoBulk d + 1
  | (_, d) => uptoBulk d + 1
 end
def uptoSmall : (H : Type) → List (DataW H) → Bool := fun _ ds => decide (uptoBulkAll ds ≤ 1048576)
def OpenSpec.upto (s : _root_.Go.ChangeSpec) : _root_.Go.OpenSpec := { _root_.Go.OpenSpec.ofChange s with cond := some uptoSmall }

/-- 'laws.FnExactBillOf', WHERE WHAT IT READS IS OF BULK AT MOST 1048576: true; the input reads as it did. -/
def fnExactBillOfUptoRow : OpenClaim := { program := "ytognjdappchpkaagreat", sum := "a4ea1af051e465e986a5479cfc6fc065b2a6a01b91bbec89cc1749fc30b316d2", func := "loop.example/g03303/laws.FnExactBillOf", spec := "fnExactBillOf", unfollowed := true, recurses := true, apart := false, narrowed := true }
def FnExactBillOfUptoSaid : Prop := fnExactBillOfUptoRow.holds Tryz.pinned (OpenSpec.upto fnExactBillOfSpec)

/-- 'laws.FnExactCheaperTariff', WHERE WHAT IT READS IS OF BULK AT MOST 1048576: true; the input reads as it did. -/
def fnExactCheaperTariffUptoRow : OpenClaim := { program := "ytognjdappchpkaagreat", sum := "a4ea1af051e465e986a5479cfc6fc065b2a6a01b91bbec89cc1749fc30b316d2", func := "loop.example/g03303/laws.FnExactCheaperTariff", spec := "fnExactCheaperTariff", unfollowed := true, recurses := true, apart := false, narrowed := true }
def FnExactCheaperTariffUptoSaid : Prop := fnExactCheaperTariffUptoRow.holds Tryz.pinned (OpenSpec.upto fnExactCheaperTariffSpec)

/-- 'laws.FnBills', WHERE WHAT IT READS IS OF BULK AT MOST 1048576: true; the input reads as it did. -/
def fnBillsUptoRow : OpenClaim := { program := "ytognjdappchpkaagreat", sum := "a4ea1af051e465e986a5479cfc6fc065b2a6a01b91bbec89cc1749fc30b316d2", func := "loop.example/g03303/laws.FnBills", spec := "fnBills", unfollowed := true, recurses := true, apart := false, narrowed := true }
def FnBillsUptoSaid : Prop := fnBillsUptoRow.holds Tryz.pinned (OpenSpec.upto fnBillsSpec)

end Rows
end Go.Proofs.YtognjdappchpkaaGreat
