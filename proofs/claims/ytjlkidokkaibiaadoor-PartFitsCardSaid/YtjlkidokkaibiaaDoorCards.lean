/-
  DERIVED. GIVEN WITH THE SEED: THE CARDS: each row of YtjlkidokkaibiaaDoorRows.lean that lists a variable, with what it lists TIED to the program's text (the seventh form; the later family's looks); each row that meets fmt, with fmt's text TOLD by the authors' own Lean function (tested against real Go, not proved from fmt's source: count such statements apart). THE CARD IS WHAT COUNTS. Prove the row's statement (the work); the ties are given (YtjlkidokkaibiaaDoorTie.lean); close each card by the builder's one call (the guide's Derived/Test/ToyasCard.lean, 'card_holds'). Laid BY PROGRAM, IN A SANDBOX (cutbox-door.mjs). By AI agents, Wed Nov 11 2026. No macro, syntax, notation, axiom, sorry.
-/
import Derived.Test.YtjlkidokkaibiaaDoorRows
import GoSem.ClaimSeven
namespace Go.Proofs.YtjlkidokkaibiaaDoor
namespace Rows

/-- THE TIED CARD OF 'postilionlaw15.PartForms'. -/
def partFormsCard : Claim7 := { stood := { row := partFormsRow, standIns := [], harness := (true, "793300c4a6c399f479c97a71a353fe1facc3b66993e48938fc044feda3ff9bda"), looks := false }, kinds := [], alts := [], laidByText := true, laidKinds := [.data, .data, .data], laidTests := true, laidLooks := .later }
def PartFormsCardSaid : Prop := Claim7.holds Tryd.pinned (.plain (OpenSpec.ofChange partFormsSpec)) partFormsCard

/-- THE TIED CARD OF 'postilionlaw15.PartSpans'. -/
def partSpansCard : Claim7 := { stood := { row := partSpansRow, standIns := [], harness := (true, "793300c4a6c399f479c97a71a353fe1facc3b66993e48938fc044feda3ff9bda"), looks := false }, kinds := [], alts := [], laidByText := true, laidKinds := [.data, .data, .data], laidTests := true, laidLooks := .later }
def PartSpansCardSaid : Prop := Claim7.holds Tryd.pinned (.plain (OpenSpec.ofChange partSpansSpec)) partSpansCard

/-- THE TIED CARD OF 'postilionlaw15.PartTells'. -/
def partTellsCard : Claim7 := { stood := { row := partTellsRow, standIns := [], harness := (true, "793300c4a6c399f479c97a71a353fe1facc3b66993e48938fc044feda3ff9bda"), looks := false }, kinds := [], alts := [], laidByText := true, laidKinds := [.data, .data, .data], laidTests := true, laidLooks := .later }
def PartTellsCardSaid : Prop := Claim7.holds Tryd.pinned (.plain (OpenSpec.ofChange partTellsSpec)) partTellsCard

/-- THE TIED CARD OF 'postilionlaw15.PartFits'. -/
def partFitsCard : Claim7 := { stood := { row := partFitsRow, standIns := [], harness := (true, "793300c4a6c399f479c97a71a353fe1facc3b66993e48938fc044feda3ff9bda"), looks := false }, kinds := [], alts := [], laidByText := true, laidKinds := [.data, .data, .data], laidTests := true, laidLooks := .later }
def PartFitsCardSaid : Prop := Claim7.holds Tryd.pinned (.plain (OpenSpec.ofChange partFitsSpec)) partFitsCard

/-- THE SECOND FORM's CARD OF 'postilionlaw15.PartForms'. -/
def partFormsUptoCard : Claim7 := { stood := { row := partFormsUptoRow, standIns := [], harness := (true, "793300c4a6c399f479c97a71a353fe1facc3b66993e48938fc044feda3ff9bda"), looks := false }, kinds := [], alts := [], laidByText := true, laidKinds := [.data, .data, .data], laidTests := true, laidLooks := .later }
def PartFormsUptoCardSaid : Prop := Claim7.holds Tryd.pinned (.plain (OpenSpec.upto partFormsSpec)) partFormsUptoCard

/-- THE SECOND FORM's CARD OF 'postilionlaw15.PartSpans'. -/
def partSpansUptoCard : Claim7 := { stood := { row := partSpansUptoRow, standIns := [], harness := (true, "793300c4a6c399f479c97a71a353fe1facc3b66993e48938fc044feda3ff9bda"), looks := false }, kinds := [], alts := [], laidByText := true, laidKinds := [.data, .data, .data], laidTests := true, laidLooks := .later }
def PartSpansUptoCardSaid : Prop := Claim7.holds Tryd.pinned (.plain (OpenSpec.upto partSpansSpec)) partSpansUptoCard

/-- THE SECOND FORM's CARD OF 'postilionlaw15.PartTells'. -/
def partTellsUptoCard : Claim7 := { stood := { row := partTellsUptoRow, standIns := [], harness := (true, "793300c4a6c399f479c97a71a353fe1facc3b66993e48938fc044feda3ff9bda"), looks := false }, kinds := [], alts := [], laidByText := true, laidKinds := [.data, .data, .data], laidTests := true, laidLooks := .later }
def PartTellsUptoCardSaid : Prop := Claim7.holds Tryd.pinned (.plain (OpenSpec.upto partTellsSpec)) partTellsUptoCard

/-- THE SECOND FORM's CARD OF 'postilionlaw15.PartFits'. -/
def partFitsUptoCard : Claim7 := { stood := { row := partFitsUptoRow, standIns := [], harness := (true, "793300c4a6c399f479c97a71a353fe1facc3b66993e48938fc044feda3ff9bda"), looks := false }, kinds := [], alts := [], laidByText := true, laidKinds := [.data, .data, .data], laidTests := true, laidLooks := .later }
def PartFitsUptoCardSaid : Prop := Claim7.holds Tryd.pinned (.plain (OpenSpec.upto partFitsSpec)) partFitsUptoCard
end Rows
end Go.Proofs.YtjlkidokkaibiaaDoor
