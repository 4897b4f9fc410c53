/-
  No cell of these rows narrows 'for every input' (looked for: loops, veiled, ifaces, maps, wideKeys, modest, calm, conditions, laid).
  DERIVED. THE GIVEN ROWS OF THIS SEAT. 5 by the template 'for every input the law returns true; each argument reads behind the call as it read before'; 0 by the template 'total and deterministic' (their statements: YthblbockghgchaaTotals.lean).
  GIVEN WITH THE SEED: the statements are not yours to turn. If you find one false, say at which input.
  Laid BY PROGRAM, IN A SANDBOX (cutbox-rows.mjs): the forced cells as the released guide's own fill.sh prints them over the translation 10ba31be7df96fa6… (all of the seat's roots in one cut). By AI agents, Wed Nov 11 2026. No macro, syntax, notation, axiom, sorry.
-/
import Derived.Test.YthblbockghgchaaChecked
import GoSem.Claim
import GoSem.ClaimJoined
import GoSem.ClaimMapViews
import Derived.JoinedTies
import Derived.KernelRfl
namespace Go.Proofs.Ythblbockghgchaa
/- THE CELL 'sum', in the pinned program and in every row, IS THE sha256 OF THE DUMP (.gsa) THAT YthblbockghgchaaProg.lean LOADS. Nothing in Lean hashes anything: it is a label: what it is worth is what the hold of that sum in a sandbox is worth. -/
noncomputable def Try.pinned : Pinned := { name := "ythblbockghgchaa", sum := "10ba31be7df96fa64b81d6449510630e7390602650da4ca360d8b15f7248b521", checked := Try.checked }
namespace Rows
def none {H : Type} : Left H := { results := [], args := [] }

/-- 'postilionlaw06.PctParts': WHATEVER THE INPUT: true; the input reads as it did. -/
def pctPartsSpec : ChangeSpec := { name := "pctParts", fn := fun _ => fun
  | [d1, d2] => { results := [.lit (.bool true)], args := [d1, d2] }
  | _ => none }
def pctPartsRow : OpenClaim := { program := "ythblbockghgchaa", sum := "10ba31be7df96fa64b81d6449510630e7390602650da4ca360d8b15f7248b521", func := "postilion/postilionlaw06.PctParts", spec := "pctParts", inPlace := ["internal/bytealg.IndexByteString", "internal/bytealg.IndexString"], named := ["internal/bytealg.MaxLen"], apart := false }
def PctPartsSaid : Prop := pctPartsRow.holds Try.pinned (OpenSpec.ofChange pctPartsSpec)

/-- ITS FALSE NEIGHBOUR: 'it returns false'. Refute it at one input. -/
def pctPartsWrong : ChangeSpec := { name := "pctParts", fn := fun _ => fun
  | [d1, d2] => { results := [.lit (.bool false)], args := [d1, d2] }
  | _ => none }
def PctPartsWrongFalsely : Prop := pctPartsRow.holds Try.pinned (OpenSpec.ofChange pctPartsWrong)

/-- 'postilionlaw06.PctBytes': WHATEVER THE INPUT: true; the input reads as it did. -/
def pctBytesSpec : ChangeSpec := { name := "pctBytes", fn := fun _ => fun
  | [d1, d2] => { results := [.lit (.bool true)], args := [d1, d2] }
  | _ => none }
def pctBytesRow : OpenClaim := { program := "ythblbockghgchaa", sum := "10ba31be7df96fa64b81d6449510630e7390602650da4ca360d8b15f7248b521", func := "postilion/postilionlaw06.PctBytes", spec := "pctBytes", inPlace := ["internal/bytealg.IndexByteString", "internal/bytealg.IndexString"], named := ["internal/bytealg.MaxLen"], apart := false }
def PctBytesSaid : Prop := pctBytesRow.holds Try.pinned (OpenSpec.ofChange pctBytesSpec)

/-- ITS FALSE NEIGHBOUR: 'it returns false'. Refute it at one input. -/
def pctBytesWrong : ChangeSpec := { name := "pctBytes", fn := fun _ => fun
  | [d1, d2] => { results := [.lit (.bool false)], args := [d1, d2] }
  | _ => none }
def PctBytesWrongFalsely : Prop := pctBytesRow.holds Try.pinned (OpenSpec.ofChange pctBytesWrong)

/-- 'postilionlaw06.PctForms': WHATEVER THE INPUT: true; the input reads as it did. -/
def pctFormsSpec : ChangeSpec := { name := "pctForms", fn := fun _ => fun
  | [d] => { results := [.lit (.bool true)], args := [d] }
  | _ => none }
def pctFormsRow : OpenClaim := { program := "ythblbockghgchaa", sum := "10ba31be7df96fa64b81d6449510630e7390602650da4ca360d8b15f7248b521", func := "postilion/postilionlaw06.PctForms", spec := "pctForms", inPlace := ["internal/bytealg.IndexByteString", "internal/bytealg.IndexString"], named := ["internal/bytealg.MaxLen"], apart := false }
def PctFormsSaid : Prop := pctFormsRow.holds Try.pinned (OpenSpec.ofChange pctFormsSpec)

/-- ITS FALSE NEIGHBOUR: 'it returns false'. Refute it at one input. -/
def pctFormsWrong : ChangeSpec := { name := "pctForms", fn := fun _ => fun
  | [d] => { results := [.lit (.bool false)], args := [d] }
  | _ => none }
def PctFormsWrongFalsely : Prop := pctFormsRow.holds Try.pinned (OpenSpec.ofChange pctFormsWrong)

/-- 'postilionlaw06.PctTells': WHATEVER THE INPUT: true; the input reads as it did. -/
def pctTellsSpec : ChangeSpec := { name := "pctTells", fn := fun _ => fun
  | [d1, d2] => { results := [.lit (.bool true)], args := [d1, d2] }
  | _ => none }
def pctTellsRow : OpenClaim := { program := "ythblbockghgchaa", sum := "10ba31be7df96fa64b81d6449510630e7390602650da4ca360d8b15f7248b521", func := "postilion/postilionlaw06.PctTells", spec := "pctTells", inPlace := ["internal/bytealg.IndexByteString", "internal/bytealg.IndexString"], named := ["internal/bytealg.MaxLen"], apart := false }
def PctTellsSaid : Prop := pctTellsRow.holds Try.pinned (OpenSpec.ofChange pctTellsSpec)

/-- ITS FALSE NEIGHBOUR: 'it returns false'. Refute it at one input. -/
def pctTellsWrong : ChangeSpec := { name := "pctTells", fn := fun _ => fun
  | [d1, d2] => { results := [.lit (.bool false)], args := [d1, d2] }
  | _ => none }
def PctTellsWrongFalsely : Prop := pctTellsRow.holds Try.pinned (OpenSpec.ofChange pctTellsWrong)

/-- 'postilionlaw06.PctBack': WHATEVER THE INPUT: true; the input reads as it did. -/
def pctBackSpec : ChangeSpec := { name := "pctBack", fn := fun _ => fun
  | [d] => { results := [.lit (.bool true)], args := [d] }
  | _ => none }
def pctBackRow : OpenClaim := { program := "ythblbockghgchaa", sum := "10ba31be7df96fa64b81d6449510630e7390602650da4ca360d8b15f7248b521", func := "postilion/postilionlaw06.PctBack", spec := "pctBack", inPlace := ["internal/bytealg.IndexByteString", "internal/bytealg.IndexString"], named := ["internal/bytealg.MaxLen"], apart := false }
def PctBackSaid : Prop := pctBackRow.holds Try.pinned (OpenSpec.ofChange pctBackSpec)

/-- ITS FALSE NEIGHBOUR: 'it returns false'. Refute it at one input. -/
def pctBackWrong : ChangeSpec := { name := "pctBack", fn := fun _ => fun
  | [d] => { results := [.lit (.bool false)], args := [d] }
  | _ => none }
def PctBackWrongFalsely : Prop := pctBackRow.holds Try.pinned (OpenSpec.ofChange pctBackWrong)

/- THE SECOND FORM. 'bulk': how many values and letters a reading holds, each counted each time it is reached (what is shared counts as often as it is met; a slice's spare places count too). A statement '..UptoSaid' is the law's where the arguments, and the package variables that the reading takes, are together of bulk at most 1048576: NARROWER than '..Said'. Prove '..Said' where nothing that the law and all that it calls make is longer than what came in: it says more and counts as full. Else prove '..UptoSaid'. A law counts once. -/
mutual
def uptoBulk {H : Type} : DataW H → Nat
  | .lit (.string bytes) => bytes.length + 1
  | .lit _ => 1
  | .nil => 1
  | .ptr d => uptoBulk d + 1
  | .slice elems spare => uptoBulkAll elems + uptoBulkAll spare + 1
  | .agg parts => uptoBulkAll parts + 1
  | .iface _ d => uptoBulk d + 1
  | .map entries => uptoBulkEntries entries + 1
  | .held _ => 1
def uptoBulkAll {H : Type} : List (DataW H) → Nat
  | [] => 0
  | d :: r => uptoBulk d + uptoBulkAll r
def uptoBulkEntries {H : Type} : List (Lit × DataW H) → Nat
  | [] => 0
  | x :: r => uptoBulkEntry x + uptoBulkEntries r
def uptoBulkEntry {H : Type} : Lit × DataW H → Nat
  | (.string bytes, d) => bytes.length + uptoBulk d + 1
  | (_, d) => uptoBulk d + 1
 end
def uptoSmall : (H : Type) → List (DataW H) → Bool := fun _ ds => decide (uptoBulkAll ds ≤ 1048576)
def OpenSpec.upto (s : _root_.Go.ChangeSpec) : _root_.Go.OpenSpec := { _root_.Go.OpenSpec.ofChange s with cond := some uptoSmall }

/-- 'postilionlaw06.PctParts', WHERE WHAT IT READS IS OF BULK AT MOST 1048576: true; the input reads as it did. -/
def pctPartsUptoRow : OpenClaim := { program := "ythblbockghgchaa", sum := "10ba31be7df96fa64b81d6449510630e7390602650da4ca360d8b15f7248b521", func := "postilion/postilionlaw06.PctParts", spec := "pctParts", inPlace := ["internal/bytealg.IndexByteString", "internal/bytealg.IndexString"], named := ["internal/bytealg.MaxLen"], apart := false, narrowed := true }
def PctPartsUptoSaid : Prop := pctPartsUptoRow.holds Try.pinned (OpenSpec.upto pctPartsSpec)

/-- 'postilionlaw06.PctBytes', WHERE WHAT IT READS IS OF BULK AT MOST 1048576: true; the input reads as it did. -/
def pctBytesUptoRow : OpenClaim := { program := "ythblbockghgchaa", sum := "10ba31be7df96fa64b81d6449510630e7390602650da4ca360d8b15f7248b521", func := "postilion/postilionlaw06.PctBytes", spec := "pctBytes", inPlace := ["internal/bytealg.IndexByteString", "internal/bytealg.IndexString"], named := ["internal/bytealg.MaxLen"], apart := false, narrowed := true }
def PctBytesUptoSaid : Prop := pctBytesUptoRow.holds Try.pinned (OpenSpec.upto pctBytesSpec)

/-- 'postilionlaw06.PctForms', WHERE WHAT IT READS IS OF BULK AT MOST 1048576: true; the input reads as it did. -/
def pctFormsUptoRow : OpenClaim := { program := "ythblbockghgchaa", sum := "10ba31be7df96fa64b81d6449510630e7390602650da4ca360d8b15f7248b521", func := "postilion/postilionlaw06.PctForms", spec := "pctForms", inPlace := ["internal/bytealg.IndexByteString", "internal/bytealg.IndexString"], named := ["internal/bytealg.MaxLen"], apart := false, narrowed := true }
def PctFormsUptoSaid : Prop := pctFormsUptoRow.holds Try.pinned (OpenSpec.upto pctFormsSpec)

/-- 'postilionlaw06.PctTells', WHERE WHAT IT READS IS OF BULK AT MOST 1048576: true; the input reads as it did. -/
def pctTellsUptoRow : OpenClaim := { program := "ythblbockghgchaa", sum := "10ba31be7df96fa64b81d6449510630e7390602650da4ca360d8b15f7248b521", func := "postilion/postilionlaw06.PctTells", spec := "pctTells", inPlace := ["internal/bytealg.IndexByteString", "internal/bytealg.IndexString"], named := ["internal/bytealg.MaxLen"], apart := false, narrowed := true }
def PctTellsUptoSaid : Prop := pctTellsUptoRow.holds Try.pinned (OpenSpec.upto pctTellsSpec)

/-- 'postilionlaw06.PctBack', WHERE WHAT IT READS IS OF BULK AT MOST 1048576: true; the input reads as it did. -/
def pctBackUptoRow : OpenClaim := { program := "ythblbockghgchaa", sum := "10ba31be7df96fa64b81d6449510630e7390602650da4ca360d8b15f7248b521", func := "postilion/postilionlaw06.PctBack", spec := "pctBack", inPlace := ["internal/bytealg.IndexByteString", "internal/bytealg.IndexString"], named := ["internal/bytealg.MaxLen"], apart := false, narrowed := true }
def PctBackUptoSaid : Prop := pctBackUptoRow.holds Try.pinned (OpenSpec.upto pctBackSpec)

end Rows
end Go.Proofs.Ythblbockghgchaa
