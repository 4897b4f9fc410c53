/-
  NARROWER THAN 'FOR EVERY INPUT', by the rows' own cells (each row's printed sentence says how): CorsParts: laid · CorsForms: laid · CorsTells: laid · CorsLaws: laid · CorsMethods: laid.
  DERIVED. THE GIVEN ROWS OF THIS SEAT. 5 by the template 'for every input the law returns true; each argument reads behind the call as it read before'; 0 by the template 'total and deterministic' (their statements: YtfdgnjbbchkgpaaDoorTotals.lean).
  GIVEN WITH THE SEED: the statements are not yours to turn. If you find one false, say at which input.
  Laid BY PROGRAM, IN A SANDBOX (cutbox-rows.mjs): the forced cells as the released guide's own fill.sh prints them over the translation f804da0f66e9d651… (all of the seat's roots in one cut). By AI agents, Wed Nov 11 2026. No macro, syntax, notation, axiom, sorry.
-/
import Derived.Test.YtfdgnjbbchkgpaaDoorChecked
import GoSem.PinnedTables
import GoSem.Claim
import GoSem.ClaimJoined
import GoSem.ClaimMapViews
import Derived.JoinedTies
import Derived.KernelRfl
namespace Go.Proofs.YtfdgnjbbchkgpaaDoor
/- THE CELL 'sum', in the pinned program and in every row, IS THE sha256 OF THE DUMP (.gsa) THAT YtfdgnjbbchkgpaaDoorProg.lean LOADS. Nothing in Lean hashes anything: it is a label: what it is worth is what the hold of that sum in a sandbox is worth. -/
noncomputable def Tryd.pinned : Pinned := { name := "ytfdgnjbbchkgpaadoor", sum := "f804da0f66e9d65130edc7a91cce1f02cb4f4776de3fe48b96f1506a677aab39", checked := Tryd.checked }
namespace Rows
def none {H : Type} : Left H := { results := [], args := [] }

/- WHAT THE LISTED PACKAGE-LEVEL VARIABLES READ AS WHEN THE CALL BEGINS. Each datum BY PROGRAM (the guide's laid-datum.mjs) off the statement by which the dump's own 'gosem.cut.vars' lays the variable. In a bare row this is a premise. The card (YtfdgnjbbchkgpaaDoorCards.lean) ties it to the program's text. -/
def laid_unicode_utf8_acceptRanges {H : Type} : DataW H := .agg [.agg [.lit (.int .u8 128), .lit (.int .u8 191)], .agg [.lit (.int .u8 160), .lit (.int .u8 191)], .agg [.lit (.int .u8 128), .lit (.int .u8 159)], .agg [.lit (.int .u8 144), .lit (.int .u8 191)], .agg [.lit (.int .u8 128), .lit (.int .u8 143)], .agg [.lit (.int .u8 0), .lit (.int .u8 0)], .agg [.lit (.int .u8 0), .lit (.int .u8 0)], .agg [.lit (.int .u8 0), .lit (.int .u8 0)], .agg [.lit (.int .u8 0), .lit (.int .u8 0)], .agg [.lit (.int .u8 0), .lit (.int .u8 0)], .agg [.lit (.int .u8 0), .lit (.int .u8 0)], .agg [.lit (.int .u8 0), .lit (.int .u8 0)], .agg [.lit (.int .u8 0), .lit (.int .u8 0)], .agg [.lit (.int .u8 0), .lit (.int .u8 0)], .agg [.lit (.int .u8 0), .lit (.int .u8 0)], .agg [.lit (.int .u8 0), .lit (.int .u8 0)]]
/-- One of Go's own tables, pinned by name: the form's constant. -/
def laid_unicode_utf8_first : DataW Unit := Go.Pinned.utf8First

/-- 'postilionlaw13.CorsParts': WHATEVER THE INPUT: true; the input reads as it did. -/
def corsPartsSpec : ChangeSpec := { name := "corsParts", fn := fun _ => fun
  | [d] => { results := [.lit (.bool true)], args := [d] }
  | _ => none }
def corsPartsRow : OpenClaim := { program := "ytfdgnjbbchkgpaadoor", sum := "f804da0f66e9d65130edc7a91cce1f02cb4f4776de3fe48b96f1506a677aab39", func := "postilion/postilionlaw13.CorsParts", spec := "corsParts", inPlace := ["internal/bytealg.CountString", "internal/bytealg.IndexByteString", "internal/bytealg.IndexString"], recurses := true, named := ["unicode/utf8.first", "unicode/utf8.acceptRanges", "internal/bytealg.MaxLen"], apart := false, laid := [("unicode/utf8.acceptRanges", laid_unicode_utf8_acceptRanges), ("unicode/utf8.first", laid_unicode_utf8_first)] }
def CorsPartsSaid : Prop := corsPartsRow.holds Tryd.pinned (OpenSpec.ofChange corsPartsSpec)

/-- ITS FALSE NEIGHBOUR: 'it returns false'. Refute it at one input. -/
def corsPartsWrong : ChangeSpec := { name := "corsParts", fn := fun _ => fun
  | [d] => { results := [.lit (.bool false)], args := [d] }
  | _ => none }
def CorsPartsWrongFalsely : Prop := corsPartsRow.holds Tryd.pinned (OpenSpec.ofChange corsPartsWrong)

/-- 'postilionlaw13.CorsForms': WHATEVER THE INPUT: true; the input reads as it did. -/
def corsFormsSpec : ChangeSpec := { name := "corsForms", fn := fun _ => fun
  | [d] => { results := [.lit (.bool true)], args := [d] }
  | _ => none }
def corsFormsRow : OpenClaim := { program := "ytfdgnjbbchkgpaadoor", sum := "f804da0f66e9d65130edc7a91cce1f02cb4f4776de3fe48b96f1506a677aab39", func := "postilion/postilionlaw13.CorsForms", spec := "corsForms", inPlace := ["internal/bytealg.CountString", "internal/bytealg.IndexByteString", "internal/bytealg.IndexString"], unfollowed := true, recurses := true, named := ["unicode/utf8.first", "unicode/utf8.acceptRanges", "internal/bytealg.MaxLen"], apart := false, laid := [("unicode/utf8.acceptRanges", laid_unicode_utf8_acceptRanges), ("unicode/utf8.first", laid_unicode_utf8_first)] }
def CorsFormsSaid : Prop := corsFormsRow.holds Tryd.pinned (OpenSpec.ofChange corsFormsSpec)

/-- ITS FALSE NEIGHBOUR: 'it returns false'. Refute it at one input. -/
def corsFormsWrong : ChangeSpec := { name := "corsForms", fn := fun _ => fun
  | [d] => { results := [.lit (.bool false)], args := [d] }
  | _ => none }
def CorsFormsWrongFalsely : Prop := corsFormsRow.holds Tryd.pinned (OpenSpec.ofChange corsFormsWrong)

/-- 'postilionlaw13.CorsTells': WHATEVER THE INPUT: true; the input reads as it did. -/
def corsTellsSpec : ChangeSpec := { name := "corsTells", fn := fun _ => fun
  | [d1, d2, d3, d4, d5, d6] => { results := [.lit (.bool true)], args := [d1, d2, d3, d4, d5, d6] }
  | _ => none }
def corsTellsRow : OpenClaim := { program := "ytfdgnjbbchkgpaadoor", sum := "f804da0f66e9d65130edc7a91cce1f02cb4f4776de3fe48b96f1506a677aab39", func := "postilion/postilionlaw13.CorsTells", spec := "corsTells", inPlace := ["internal/bytealg.IndexByteString", "internal/bytealg.IndexString", "internal/bytealg.CountString"], unfollowed := true, recurses := true, named := ["internal/bytealg.MaxLen", "unicode/utf8.first", "unicode/utf8.acceptRanges"], apart := false, laid := [("unicode/utf8.acceptRanges", laid_unicode_utf8_acceptRanges), ("unicode/utf8.first", laid_unicode_utf8_first)] }
def CorsTellsSaid : Prop := corsTellsRow.holds Tryd.pinned (OpenSpec.ofChange corsTellsSpec)

/-- ITS FALSE NEIGHBOUR: 'it returns false'. Refute it at one input. -/
def corsTellsWrong : ChangeSpec := { name := "corsTells", fn := fun _ => fun
  | [d1, d2, d3, d4, d5, d6] => { results := [.lit (.bool false)], args := [d1, d2, d3, d4, d5, d6] }
  | _ => none }
def CorsTellsWrongFalsely : Prop := corsTellsRow.holds Tryd.pinned (OpenSpec.ofChange corsTellsWrong)

/-- 'postilionlaw13.CorsLaws': WHATEVER THE INPUT: true; the input reads as it did. -/
def corsLawsSpec : ChangeSpec := { name := "corsLaws", fn := fun _ => fun
  | [d1, d2, d3, d4] => { results := [.lit (.bool true)], args := [d1, d2, d3, d4] }
  | _ => none }
def corsLawsRow : OpenClaim := { program := "ytfdgnjbbchkgpaadoor", sum := "f804da0f66e9d65130edc7a91cce1f02cb4f4776de3fe48b96f1506a677aab39", func := "postilion/postilionlaw13.CorsLaws", spec := "corsLaws", inPlace := ["internal/bytealg.CountString", "internal/bytealg.IndexByteString", "internal/bytealg.IndexString"], unfollowed := true, recurses := true, named := ["unicode/utf8.first", "unicode/utf8.acceptRanges", "internal/bytealg.MaxLen"], apart := false, laid := [("unicode/utf8.acceptRanges", laid_unicode_utf8_acceptRanges), ("unicode/utf8.first", laid_unicode_utf8_first)] }
def CorsLawsSaid : Prop := corsLawsRow.holds Tryd.pinned (OpenSpec.ofChange corsLawsSpec)

/-- ITS FALSE NEIGHBOUR: 'it returns false'. Refute it at one input. -/
def corsLawsWrong : ChangeSpec := { name := "corsLaws", fn := fun _ => fun
  | [d1, d2, d3, d4] => { results := [.lit (.bool false)], args := [d1, d2, d3, d4] }
  | _ => none }
def CorsLawsWrongFalsely : Prop := corsLawsRow.holds Tryd.pinned (OpenSpec.ofChange corsLawsWrong)

/-- 'postilionlaw13.CorsMethods': WHATEVER THE INPUT: true; the input reads as it did. -/
def corsMethodsSpec : ChangeSpec := { name := "corsMethods", fn := fun _ => fun
  | [d1, d2, d3, d4, d5, d6] => { results := [.lit (.bool true)], args := [d1, d2, d3, d4, d5, d6] }
  | _ => none }
def corsMethodsRow : OpenClaim := { program := "ytfdgnjbbchkgpaadoor", sum := "f804da0f66e9d65130edc7a91cce1f02cb4f4776de3fe48b96f1506a677aab39", func := "postilion/postilionlaw13.CorsMethods", spec := "corsMethods", inPlace := ["internal/bytealg.CountString", "internal/bytealg.IndexByteString", "internal/bytealg.IndexString"], unfollowed := true, recurses := true, named := ["unicode/utf8.first", "unicode/utf8.acceptRanges", "internal/bytealg.MaxLen"], apart := false, laid := [("unicode/utf8.acceptRanges", laid_unicode_utf8_acceptRanges), ("unicode/utf8.first", laid_unicode_utf8_first)] }
def CorsMethodsSaid : Prop := corsMethodsRow.holds Tryd.pinned (OpenSpec.ofChange corsMethodsSpec)

/-- ITS FALSE NEIGHBOUR: 'it returns false'. Refute it at one input. -/
def corsMethodsWrong : ChangeSpec := { name := "corsMethods", fn := fun _ => fun
  | [d1, d2, d3, d4, d5, d6] => { results := [.lit (.bool false)], args := [d1, d2, d3, d4, d5, d6] }
  | _ => none }
def CorsMethodsWrongFalsely : Prop := corsMethodsRow.holds Tryd.pinned (OpenSpec.ofChange corsMethodsWrong)

/- THE SECOND FORM. 'bulk': how many values and letters a reading holds, each counted each time it is reached (what is shared counts as often as it is met; a slice's spare places count too). A statement '..UptoSaid' is the law's where the arguments, and the package variables that the reading takes, are together of bulk at most 1048576: NARROWER than '..Said'. Prove '..Said' where nothing that the law and all that it calls make is longer than what came in: it says more and counts as full. Else prove '..UptoSaid'. A law counts once. -/
mutual
def uptoBulk {H : Type} : DataW H → Nat
  | .lit (.string bytes) => bytes.length + 1
  | .lit _ => 1
  | .nil => 1
  | .ptr d => uptoBulk d + 1
  | .slice elems spare => uptoBulkAll elems + uptoBulkAll spare + 1
  | .agg parts => uptoBulkAll parts + 1
  | .iface _ d => uptoBulk d + 1
  | .map entries => uptoBulkEntries entries + 1
  | .held _ => 1
def uptoBulkAll {H : Type} : List (DataW H) → Nat
  | [] => 0
  | d :: r => uptoBulk d + uptoBulkAll r
def uptoBulkEntries {H : Type} : List (Lit × DataW H) → Nat
  | [] => 0
  | x :: r => uptoBulkEntry x + uptoBulkEntries r
def uptoBulkEntry {H : Type} : Lit × DataW H → Nat
  | (.string bytes, d) => bytes.length + uptoBulk d + 1
  | (_, d) => uptoBulk d + 1
 end
def uptoSmall : (H : Type) → List (DataW H) → Bool := fun _ ds => decide (uptoBulkAll ds ≤ 1048576)
def OpenSpec.upto (s : _root_.Go.ChangeSpec) : _root_.Go.OpenSpec := { _root_.Go.OpenSpec.ofChange s with cond := some uptoSmall }

/-- 'postilionlaw13.CorsParts', WHERE WHAT IT READS IS OF BULK AT MOST 1048576: true; the input reads as it did. -/
def corsPartsUptoRow : OpenClaim := { program := "ytfdgnjbbchkgpaadoor", sum := "f804da0f66e9d65130edc7a91cce1f02cb4f4776de3fe48b96f1506a677aab39", func := "postilion/postilionlaw13.CorsParts", spec := "corsParts", inPlace := ["internal/bytealg.CountString", "internal/bytealg.IndexByteString", "internal/bytealg.IndexString"], recurses := true, named := ["unicode/utf8.first", "unicode/utf8.acceptRanges", "internal/bytealg.MaxLen"], apart := false, laid := [("unicode/utf8.acceptRanges", laid_unicode_utf8_acceptRanges), ("unicode/utf8.first", laid_unicode_utf8_first)], narrowed := true }
def CorsPartsUptoSaid : Prop := corsPartsUptoRow.holds Tryd.pinned (OpenSpec.upto corsPartsSpec)

/-- 'postilionlaw13.CorsForms', WHERE WHAT IT READS IS OF BULK AT MOST 1048576: true; the input reads as it did. -/
def corsFormsUptoRow : OpenClaim := { program := "ytfdgnjbbchkgpaadoor", sum := "f804da0f66e9d65130edc7a91cce1f02cb4f4776de3fe48b96f1506a677aab39", func := "postilion/postilionlaw13.CorsForms", spec := "corsForms", inPlace := ["internal/bytealg.CountString", "internal/bytealg.IndexByteString", "internal/bytealg.IndexString"], unfollowed := true, recurses := true, named := ["unicode/utf8.first", "unicode/utf8.acceptRanges", "internal/bytealg.MaxLen"], apart := false, laid := [("unicode/utf8.acceptRanges", laid_unicode_utf8_acceptRanges), ("unicode/utf8.first", laid_unicode_utf8_first)], narrowed := true }
def CorsFormsUptoSaid : Prop := corsFormsUptoRow.holds Tryd.pinned (OpenSpec.upto corsFormsSpec)

/-- 'postilionlaw13.CorsTells', WHERE WHAT IT READS IS OF BULK AT MOST 1048576: true; the input reads as it did. -/
def corsTellsUptoRow : OpenClaim := { program := "ytfdgnjbbchkgpaadoor", sum := "f804da0f66e9d65130edc7a91cce1f02cb4f4776de3fe48b96f1506a677aab39", func := "postilion/postilionlaw13.CorsTells", spec := "corsTells", inPlace := ["internal/bytealg.IndexByteString", "internal/bytealg.IndexString", "internal/bytealg.CountString"], unfollowed := true, recurses := true, named := ["internal/bytealg.MaxLen", "unicode/utf8.first", "unicode/utf8.acceptRanges"], apart := false, laid := [("unicode/utf8.acceptRanges", laid_unicode_utf8_acceptRanges), ("unicode/utf8.first", laid_unicode_utf8_first)], narrowed := true }
def CorsTellsUptoSaid : Prop := corsTellsUptoRow.holds Tryd.pinned (OpenSpec.upto corsTellsSpec)

/-- 'postilionlaw13.CorsLaws', WHERE WHAT IT READS IS OF BULK AT MOST 1048576: true; the input reads as it did. -/
def corsLawsUptoRow : OpenClaim := { program := "ytfdgnjbbchkgpaadoor", sum := "f804da0f66e9d65130edc7a91cce1f02cb4f4776de3fe48b96f1506a677aab39", func := "postilion/postilionlaw13.CorsLaws", spec := "corsLaws", inPlace := ["internal/bytealg.CountString", "internal/bytealg.IndexByteString", "internal/bytealg.IndexString"], unfollowed := true, recurses := true, named := ["unicode/utf8.first", "unicode/utf8.acceptRanges", "internal/bytealg.MaxLen"], apart := false, laid := [("unicode/utf8.acceptRanges", laid_unicode_utf8_acceptRanges), ("unicode/utf8.first", laid_unicode_utf8_first)], narrowed := true }
def CorsLawsUptoSaid : Prop := corsLawsUptoRow.holds Tryd.pinned (OpenSpec.upto corsLawsSpec)

/-- 'postilionlaw13.CorsMethods', WHERE WHAT IT READS IS OF BULK AT MOST 1048576: true; the input reads as it did. -/
def corsMethodsUptoRow : OpenClaim := { program := "ytfdgnjbbchkgpaadoor", sum := "f804da0f66e9d65130edc7a91cce1f02cb4f4776de3fe48b96f1506a677aab39", func := "postilion/postilionlaw13.CorsMethods", spec := "corsMethods", inPlace := ["internal/bytealg.CountString", "internal/bytealg.IndexByteString", "internal/bytealg.IndexString"], unfollowed := true, recurses := true, named := ["unicode/utf8.first", "unicode/utf8.acceptRanges", "internal/bytealg.MaxLen"], apart := false, laid := [("unicode/utf8.acceptRanges", laid_unicode_utf8_acceptRanges), ("unicode/utf8.first", laid_unicode_utf8_first)], narrowed := true }
def CorsMethodsUptoSaid : Prop := corsMethodsUptoRow.holds Tryd.pinned (OpenSpec.upto corsMethodsSpec)

end Rows
end Go.Proofs.YtfdgnjbbchkgpaaDoor
