/-
  DERIVED. GIVEN WITH THE SEED: THE CARDS: each row of YtfdgnjbbchkgpaaDoorRows.lean that lists a variable, with what it lists TIED to the program's text (the seventh form; the later family's looks); each row that meets fmt, with fmt's text TOLD by the authors' own Lean function (tested against real Go, not proved from fmt's source: count such statements apart). THE CARD IS WHAT COUNTS. Prove the row's statement (the work); the ties are given (YtfdgnjbbchkgpaaDoorTie.lean); close each card by the builder's one call (the guide's Derived/Test/ToyasCard.lean, 'card_holds'). Laid BY PROGRAM, IN A SANDBOX (cutbox-door.mjs). By AI agents, Wed Nov 11 2026. No macro, syntax, notation, axiom, sorry.
-/
import Derived.Test.YtfdgnjbbchkgpaaDoorRows
import GoSem.ClaimSeven
namespace Go.Proofs.YtfdgnjbbchkgpaaDoor
namespace Rows

/-- THE TIED CARD OF 'postilionlaw13.CorsParts'. -/
def corsPartsCard : Claim7 := { stood := { row := corsPartsRow, standIns := [], harness := (true, "8a008e07b83df93dbdf20e59ebbd35a6b641d48d90e7a96c5054e30689c2c75c"), looks := false }, kinds := [], alts := [], laidByText := true, laidKinds := [.data, .pinned], laidTests := true, laidLooks := .later }
def CorsPartsCardSaid : Prop := Claim7.holds Tryd.pinned (.plain (OpenSpec.ofChange corsPartsSpec)) corsPartsCard

/-- THE TIED CARD OF 'postilionlaw13.CorsForms'. -/
def corsFormsCard : Claim7 := { stood := { row := corsFormsRow, standIns := [], harness := (true, "8a008e07b83df93dbdf20e59ebbd35a6b641d48d90e7a96c5054e30689c2c75c"), looks := false }, kinds := [], alts := [], laidByText := true, laidKinds := [.data, .pinned], laidTests := true, laidLooks := .later }
def CorsFormsCardSaid : Prop := Claim7.holds Tryd.pinned (.plain (OpenSpec.ofChange corsFormsSpec)) corsFormsCard

/-- THE TIED CARD OF 'postilionlaw13.CorsTells'. -/
def corsTellsCard : Claim7 := { stood := { row := corsTellsRow, standIns := [], harness := (true, "8a008e07b83df93dbdf20e59ebbd35a6b641d48d90e7a96c5054e30689c2c75c"), looks := false }, kinds := [], alts := [], laidByText := true, laidKinds := [.data, .pinned], laidTests := true, laidLooks := .later }
def CorsTellsCardSaid : Prop := Claim7.holds Tryd.pinned (.plain (OpenSpec.ofChange corsTellsSpec)) corsTellsCard

/-- THE TIED CARD OF 'postilionlaw13.CorsLaws'. -/
def corsLawsCard : Claim7 := { stood := { row := corsLawsRow, standIns := [], harness := (true, "8a008e07b83df93dbdf20e59ebbd35a6b641d48d90e7a96c5054e30689c2c75c"), looks := false }, kinds := [], alts := [], laidByText := true, laidKinds := [.data, .pinned], laidTests := true, laidLooks := .later }
def CorsLawsCardSaid : Prop := Claim7.holds Tryd.pinned (.plain (OpenSpec.ofChange corsLawsSpec)) corsLawsCard

/-- THE TIED CARD OF 'postilionlaw13.CorsMethods'. -/
def corsMethodsCard : Claim7 := { stood := { row := corsMethodsRow, standIns := [], harness := (true, "8a008e07b83df93dbdf20e59ebbd35a6b641d48d90e7a96c5054e30689c2c75c"), looks := false }, kinds := [], alts := [], laidByText := true, laidKinds := [.data, .pinned], laidTests := true, laidLooks := .later }
def CorsMethodsCardSaid : Prop := Claim7.holds Tryd.pinned (.plain (OpenSpec.ofChange corsMethodsSpec)) corsMethodsCard

/-- THE SECOND FORM's CARD OF 'postilionlaw13.CorsParts'. -/
def corsPartsUptoCard : Claim7 := { stood := { row := corsPartsUptoRow, standIns := [], harness := (true, "8a008e07b83df93dbdf20e59ebbd35a6b641d48d90e7a96c5054e30689c2c75c"), looks := false }, kinds := [], alts := [], laidByText := true, laidKinds := [.data, .pinned], laidTests := true, laidLooks := .later }
def CorsPartsUptoCardSaid : Prop := Claim7.holds Tryd.pinned (.plain (OpenSpec.upto corsPartsSpec)) corsPartsUptoCard

/-- THE SECOND FORM's CARD OF 'postilionlaw13.CorsForms'. -/
def corsFormsUptoCard : Claim7 := { stood := { row := corsFormsUptoRow, standIns := [], harness := (true, "8a008e07b83df93dbdf20e59ebbd35a6b641d48d90e7a96c5054e30689c2c75c"), looks := false }, kinds := [], alts := [], laidByText := true, laidKinds := [.data, .pinned], laidTests := true, laidLooks := .later }
def CorsFormsUptoCardSaid : Prop := Claim7.holds Tryd.pinned (.plain (OpenSpec.upto corsFormsSpec)) corsFormsUptoCard

/-- THE SECOND FORM's CARD OF 'postilionlaw13.CorsTells'. -/
def corsTellsUptoCard : Claim7 := { stood := { row := corsTellsUptoRow, standIns := [], harness := (true, "8a008e07b83df93dbdf20e59ebbd35a6b641d48d90e7a96c5054e30689c2c75c"), looks := false }, kinds := [], alts := [], laidByText := true, laidKinds := [.data, .pinned], laidTests := true, laidLooks := .later }
def CorsTellsUptoCardSaid : Prop := Claim7.holds Tryd.pinned (.plain (OpenSpec.upto corsTellsSpec)) corsTellsUptoCard

/-- THE SECOND FORM's CARD OF 'postilionlaw13.CorsLaws'. -/
def corsLawsUptoCard : Claim7 := { stood := { row := corsLawsUptoRow, standIns := [], harness := (true, "8a008e07b83df93dbdf20e59ebbd35a6b641d48d90e7a96c5054e30689c2c75c"), looks := false }, kinds := [], alts := [], laidByText := true, laidKinds := [.data, .pinned], laidTests := true, laidLooks := .later }
def CorsLawsUptoCardSaid : Prop := Claim7.holds Tryd.pinned (.plain (OpenSpec.upto corsLawsSpec)) corsLawsUptoCard

/-- THE SECOND FORM's CARD OF 'postilionlaw13.CorsMethods'. -/
def corsMethodsUptoCard : Claim7 := { stood := { row := corsMethodsUptoRow, standIns := [], harness := (true, "8a008e07b83df93dbdf20e59ebbd35a6b641d48d90e7a96c5054e30689c2c75c"), looks := false }, kinds := [], alts := [], laidByText := true, laidKinds := [.data, .pinned], laidTests := true, laidLooks := .later }
def CorsMethodsUptoCardSaid : Prop := Claim7.holds Tryd.pinned (.plain (OpenSpec.upto corsMethodsSpec)) corsMethodsUptoCard
end Rows
end Go.Proofs.YtfdgnjbbchkgpaaDoor
