/-
  DERIVED. GIVEN WITH THE SEED: THE CARDS: each row of YtbennlajjfkdpaaGreatDoorRows.lean that lists a variable, with what it lists TIED to the program's text (the seventh form; the later family's looks); each row that meets fmt, with fmt's text TOLD by the authors' own Lean function (tested against real Go, not proved from fmt's source: count such statements apart). THE CARD IS WHAT COUNTS. Prove the row's statement (the work); the ties are given (YtbennlajjfkdpaaGreatDoorTie.lean); close each card by the builder's one call (the guide's Derived/Test/ToyasCard.lean, 'card_holds'). Laid BY PROGRAM, IN A SANDBOX (cutbox-door.mjs). By AI agents, Wed Nov 11 2026. No macro, syntax, notation, axiom, sorry.
-/
import Derived.Test.YtbennlajjfkdpaaGreatDoorRows
import GoSem.ClaimSeven
namespace Go.Proofs.YtbennlajjfkdpaaGreatDoor
namespace Rows

/-- THE TIED CARD OF 'laws.FnExactFaceText'. -/
def fnExactFaceTextCard : Claim7 := { stood := { row := fnExactFaceTextRow, standIns := [], harness := (true, "f23f790c0e26280348f6b69986389c09aaa155b232374a59b0b286c576f8ac61"), looks := false }, kinds := [], alts := [], laidByText := true, laidKinds := [.data, .data, .data], laidTests := true, laidLooks := .later }
def FnExactFaceTextCardSaid : Prop := Claim7.holds Tryz.pinned (.plain (OpenSpec.ofChange fnExactFaceTextSpec)) fnExactFaceTextCard

/-- THE TIED CARD OF 'laws.FnPlans'. -/
def fnPlansCard : Claim7 := { stood := { row := fnPlansRow, standIns := [], harness := (true, "f23f790c0e26280348f6b69986389c09aaa155b232374a59b0b286c576f8ac61"), looks := false }, kinds := [], alts := [], laidByText := true, laidKinds := [.data, .data, .data, .data, .pinned], laidTests := true, laidLooks := .later }
def FnPlansCardSaid : Prop := Claim7.holds Tryz.pinned (.plain (OpenSpec.ofChange fnPlansSpec)) fnPlansCard

/-- THE SECOND FORM's CARD OF 'laws.FnExactFaceText'. -/
def fnExactFaceTextUptoCard : Claim7 := { stood := { row := fnExactFaceTextUptoRow, standIns := [], harness := (true, "f23f790c0e26280348f6b69986389c09aaa155b232374a59b0b286c576f8ac61"), looks := false }, kinds := [], alts := [], laidByText := true, laidKinds := [.data, .data, .data], laidTests := true, laidLooks := .later }
def FnExactFaceTextUptoCardSaid : Prop := Claim7.holds Tryz.pinned (.plain (OpenSpec.upto fnExactFaceTextSpec)) fnExactFaceTextUptoCard

/-- THE SECOND FORM's CARD OF 'laws.FnPlans'. -/
def fnPlansUptoCard : Claim7 := { stood := { row := fnPlansUptoRow, standIns := [], harness := (true, "f23f790c0e26280348f6b69986389c09aaa155b232374a59b0b286c576f8ac61"), looks := false }, kinds := [], alts := [], laidByText := true, laidKinds := [.data, .data, .data, .data, .pinned], laidTests := true, laidLooks := .later }
def FnPlansUptoCardSaid : Prop := Claim7.holds Tryz.pinned (.plain (OpenSpec.upto fnPlansSpec)) fnPlansUptoCard
end Rows
end Go.Proofs.YtbennlajjfkdpaaGreatDoor
