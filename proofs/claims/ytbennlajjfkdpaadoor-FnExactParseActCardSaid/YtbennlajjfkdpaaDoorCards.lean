/-
  DERIVED. GIVEN WITH THE SEED: THE CARDS: each row of YtbennlajjfkdpaaDoorRows.lean that lists a variable, with what it lists TIED to the program's text (the seventh form; the later family's looks); each row that meets fmt, with fmt's text TOLD by the authors' own Lean function (tested against real Go, not proved from fmt's source: count such statements apart). THE CARD IS WHAT COUNTS. Prove the row's statement (the work); the ties are given (YtbennlajjfkdpaaDoorTie.lean); close each card by the builder's one call (the guide's Derived/Test/ToyasCard.lean, 'card_holds'). Laid BY PROGRAM, IN A SANDBOX (cutbox-door.mjs). By AI agents, Wed Nov 11 2026. No macro, syntax, notation, axiom, sorry.
-/
import Derived.Test.YtbennlajjfkdpaaDoorRows
import GoSem.ClaimSeven
namespace Go.Proofs.YtbennlajjfkdpaaDoor
namespace Rows

/-- THE TIED CARD OF 'laws.FnExactParseAct'. -/
def fnExactParseActCard : Claim7 := { stood := { row := fnExactParseActRow, standIns := [], harness := (true, "a779275b25ef9c35cb5abb0857bd778306a4268f5483572756aa6c135877ecbd"), looks := false }, kinds := [], alts := [], laidByText := true, laidKinds := [.data, .data, .data], laidTests := true, laidLooks := .later }
def FnExactParseActCardSaid : Prop := Claim7.holds Tryd.pinned (.plain (OpenSpec.ofChange fnExactParseActSpec)) fnExactParseActCard

/-- THE TIED CARD OF 'laws.FnExactReadWindow'. -/
def fnExactReadWindowCard : Claim7 := { stood := { row := fnExactReadWindowRow, standIns := [], harness := (true, "a779275b25ef9c35cb5abb0857bd778306a4268f5483572756aa6c135877ecbd"), looks := false }, kinds := [], alts := [], laidByText := true, laidKinds := [.data, .data, .data, .data, .pinned], laidTests := true, laidLooks := .later }
def FnExactReadWindowCardSaid : Prop := Claim7.holds Tryd.pinned (.plain (OpenSpec.ofChange fnExactReadWindowSpec)) fnExactReadWindowCard

/-- THE SECOND FORM's CARD OF 'laws.FnExactParseAct'. -/
def fnExactParseActUptoCard : Claim7 := { stood := { row := fnExactParseActUptoRow, standIns := [], harness := (true, "a779275b25ef9c35cb5abb0857bd778306a4268f5483572756aa6c135877ecbd"), looks := false }, kinds := [], alts := [], laidByText := true, laidKinds := [.data, .data, .data], laidTests := true, laidLooks := .later }
def FnExactParseActUptoCardSaid : Prop := Claim7.holds Tryd.pinned (.plain (OpenSpec.upto fnExactParseActSpec)) fnExactParseActUptoCard

/-- THE SECOND FORM's CARD OF 'laws.FnExactReadWindow'. -/
def fnExactReadWindowUptoCard : Claim7 := { stood := { row := fnExactReadWindowUptoRow, standIns := [], harness := (true, "a779275b25ef9c35cb5abb0857bd778306a4268f5483572756aa6c135877ecbd"), looks := false }, kinds := [], alts := [], laidByText := true, laidKinds := [.data, .data, .data, .data, .pinned], laidTests := true, laidLooks := .later }
def FnExactReadWindowUptoCardSaid : Prop := Claim7.holds Tryd.pinned (.plain (OpenSpec.upto fnExactReadWindowSpec)) fnExactReadWindowUptoCard
end Rows
end Go.Proofs.YtbennlajjfkdpaaDoor
