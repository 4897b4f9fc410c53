/-
  DERIVED. GIVEN WITH THE SEED: THE CARDS: each row of YtdelipmhginegaaDoorRows.lean that lists a variable, with what it lists TIED to the program's text (the seventh form; the later family's looks); each row that meets fmt, with fmt's text TOLD by the authors' own Lean function (tested against real Go, not proved from fmt's source: count such statements apart). THE CARD IS WHAT COUNTS. Prove the row's statement (the work); the ties are given (YtdelipmhginegaaDoorTie.lean); close each card by the builder's one call (the guide's Derived/Test/ToyasCard.lean, 'card_holds'). Laid BY PROGRAM, IN A SANDBOX (cutbox-door.mjs). By AI agents, Wed Nov 11 2026. No macro, syntax, notation, axiom, sorry.
-/
import Derived.Test.YtdelipmhginegaaDoorRows
import GoSem.ClaimSeven
namespace Go.Proofs.YtdelipmhginegaaDoor
namespace Rows

/-- THE TIED CARD OF 'postilionlaw08.HeadLetters'. -/
def headLettersCard : Claim7 := { stood := { row := headLettersRow, standIns := [], harness := (true, "812ce4ba628c334281e01bbda8096f1ad810251f5ac447297ec1e05432d2b56b"), looks := false }, kinds := [], alts := [], laidByText := true, laidKinds := [.data, .pinned], laidTests := true, laidLooks := .later }
def HeadLettersCardSaid : Prop := Claim7.holds Tryd.pinned (.plain (OpenSpec.ofChange headLettersSpec)) headLettersCard

/-- THE SECOND FORM's CARD OF 'postilionlaw08.HeadLetters'. -/
def headLettersUptoCard : Claim7 := { stood := { row := headLettersUptoRow, standIns := [], harness := (true, "812ce4ba628c334281e01bbda8096f1ad810251f5ac447297ec1e05432d2b56b"), looks := false }, kinds := [], alts := [], laidByText := true, laidKinds := [.data, .pinned], laidTests := true, laidLooks := .later }
def HeadLettersUptoCardSaid : Prop := Claim7.holds Tryd.pinned (.plain (OpenSpec.upto headLettersSpec)) headLettersUptoCard
end Rows
end Go.Proofs.YtdelipmhginegaaDoor
