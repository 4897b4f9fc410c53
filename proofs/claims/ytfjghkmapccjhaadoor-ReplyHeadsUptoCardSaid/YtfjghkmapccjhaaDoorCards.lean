/-
  DERIVED. GIVEN WITH THE SEED: THE CARDS: each row of YtfjghkmapccjhaaDoorRows.lean that lists a variable, with what it lists TIED to the program's text (the seventh form; the later family's looks); each row that meets fmt, with fmt's text TOLD by the authors' own Lean function (tested against real Go, not proved from fmt's source: count such statements apart). THE CARD IS WHAT COUNTS. Prove the row's statement (the work); the ties are given (YtfjghkmapccjhaaDoorTie.lean); close each card by the builder's one call (the guide's Derived/Test/ToyasCard.lean, 'card_holds'). Laid BY PROGRAM, IN A SANDBOX (cutbox-door.mjs). By AI agents, Wed Nov 11 2026. No macro, syntax, notation, axiom, sorry.
-/
import Derived.Test.YtfjghkmapccjhaaDoorRows
import GoSem.ClaimSeven
namespace Go.Proofs.YtfjghkmapccjhaaDoor
namespace Rows

/-- THE TIED CARD OF 'postilionlaw09.ReplyHeads'. -/
def replyHeadsCard : Claim7 := { stood := { row := replyHeadsRow, standIns := [], harness := (true, "61657676d12e1870a9d809141ebf9a3df043f67969999ebbb250fbe38b201444"), looks := false }, kinds := [], alts := [], laidByText := true, laidKinds := [.data, .pinned], laidTests := true, laidLooks := .later }
def ReplyHeadsCardSaid : Prop := Claim7.holds Tryd.pinned (.plain (OpenSpec.ofChange replyHeadsSpec)) replyHeadsCard

/-- THE TIED CARD OF 'postilionlaw09.ReplyCuts'. -/
def replyCutsCard : Claim7 := { stood := { row := replyCutsRow, standIns := [], harness := (true, "61657676d12e1870a9d809141ebf9a3df043f67969999ebbb250fbe38b201444"), looks := false }, kinds := [], alts := [], laidByText := true, laidKinds := [.data, .pinned], laidTests := true, laidLooks := .later }
def ReplyCutsCardSaid : Prop := Claim7.holds Tryd.pinned (.plain (OpenSpec.ofChange replyCutsSpec)) replyCutsCard

/-- THE TIED CARD OF 'postilionlaw09.ReplyForms'. -/
def replyFormsCard : Claim7 := { stood := { row := replyFormsRow, standIns := [], harness := (true, "61657676d12e1870a9d809141ebf9a3df043f67969999ebbb250fbe38b201444"), looks := false }, kinds := [], alts := [], laidByText := true, laidKinds := [.data, .data, .data, .data, .pinned], laidTests := true, laidLooks := .later }
def ReplyFormsCardSaid : Prop := Claim7.holds Tryd.pinned (.plain (OpenSpec.ofChange replyFormsSpec)) replyFormsCard

/-- THE TIED CARD OF 'postilionlaw09.ReplyTells'. -/
def replyTellsCard : Claim7 := { stood := { row := replyTellsRow, standIns := [], harness := (true, "61657676d12e1870a9d809141ebf9a3df043f67969999ebbb250fbe38b201444"), looks := false }, kinds := [], alts := [], laidByText := true, laidKinds := [.data, .data, .data, .data, .pinned], laidTests := true, laidLooks := .later }
def ReplyTellsCardSaid : Prop := Claim7.holds Tryd.pinned (.plain (OpenSpec.ofChange replyTellsSpec)) replyTellsCard

/-- THE TIED CARD OF 'postilionlaw09.ReplyBack'. -/
def replyBackCard : Claim7 := { stood := { row := replyBackRow, standIns := [], harness := (true, "61657676d12e1870a9d809141ebf9a3df043f67969999ebbb250fbe38b201444"), looks := false }, kinds := [], alts := [], laidByText := true, laidKinds := [.data, .data, .data, .data, .pinned], laidTests := true, laidLooks := .later }
def ReplyBackCardSaid : Prop := Claim7.holds Tryd.pinned (.plain (OpenSpec.ofChange replyBackSpec)) replyBackCard

/-- THE SECOND FORM's CARD OF 'postilionlaw09.ReplyHeads'. -/
def replyHeadsUptoCard : Claim7 := { stood := { row := replyHeadsUptoRow, standIns := [], harness := (true, "61657676d12e1870a9d809141ebf9a3df043f67969999ebbb250fbe38b201444"), looks := false }, kinds := [], alts := [], laidByText := true, laidKinds := [.data, .pinned], laidTests := true, laidLooks := .later }
def ReplyHeadsUptoCardSaid : Prop := Claim7.holds Tryd.pinned (.plain (OpenSpec.upto replyHeadsSpec)) replyHeadsUptoCard

/-- THE SECOND FORM's CARD OF 'postilionlaw09.ReplyCuts'. -/
def replyCutsUptoCard : Claim7 := { stood := { row := replyCutsUptoRow, standIns := [], harness := (true, "61657676d12e1870a9d809141ebf9a3df043f67969999ebbb250fbe38b201444"), looks := false }, kinds := [], alts := [], laidByText := true, laidKinds := [.data, .pinned], laidTests := true, laidLooks := .later }
def ReplyCutsUptoCardSaid : Prop := Claim7.holds Tryd.pinned (.plain (OpenSpec.upto replyCutsSpec)) replyCutsUptoCard

/-- THE SECOND FORM's CARD OF 'postilionlaw09.ReplyForms'. -/
def replyFormsUptoCard : Claim7 := { stood := { row := replyFormsUptoRow, standIns := [], harness := (true, "61657676d12e1870a9d809141ebf9a3df043f67969999ebbb250fbe38b201444"), looks := false }, kinds := [], alts := [], laidByText := true, laidKinds := [.data, .data, .data, .data, .pinned], laidTests := true, laidLooks := .later }
def ReplyFormsUptoCardSaid : Prop := Claim7.holds Tryd.pinned (.plain (OpenSpec.upto replyFormsSpec)) replyFormsUptoCard

/-- THE SECOND FORM's CARD OF 'postilionlaw09.ReplyTells'. -/
def replyTellsUptoCard : Claim7 := { stood := { row := replyTellsUptoRow, standIns := [], harness := (true, "61657676d12e1870a9d809141ebf9a3df043f67969999ebbb250fbe38b201444"), looks := false }, kinds := [], alts := [], laidByText := true, laidKinds := [.data, .data, .data, .data, .pinned], laidTests := true, laidLooks := .later }
def ReplyTellsUptoCardSaid : Prop := Claim7.holds Tryd.pinned (.plain (OpenSpec.upto replyTellsSpec)) replyTellsUptoCard

/-- THE SECOND FORM's CARD OF 'postilionlaw09.ReplyBack'. -/
def replyBackUptoCard : Claim7 := { stood := { row := replyBackUptoRow, standIns := [], harness := (true, "61657676d12e1870a9d809141ebf9a3df043f67969999ebbb250fbe38b201444"), looks := false }, kinds := [], alts := [], laidByText := true, laidKinds := [.data, .data, .data, .data, .pinned], laidTests := true, laidLooks := .later }
def ReplyBackUptoCardSaid : Prop := Claim7.holds Tryd.pinned (.plain (OpenSpec.upto replyBackSpec)) replyBackUptoCard
end Rows
end Go.Proofs.YtfjghkmapccjhaaDoor
