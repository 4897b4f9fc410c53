/-
  No cell of these rows narrows 'for every input' (looked for: loops, veiled, ifaces, maps, wideKeys, modest, calm, conditions, laid).
  DERIVED. THE GIVEN ROWS OF THIS SEAT. 5 by the template 'for every input the law returns true; each argument reads behind the call as it read before'; 0 by the template 'total and deterministic' (their statements: YtdelipmhginegaaTotals.lean).
  GIVEN WITH THE SEED: the statements are not yours to turn. If you find one false, say at which input.
  Laid BY PROGRAM, IN A SANDBOX (cutbox-rows.mjs): the forced cells as the released guide's own fill.sh prints them over the translation e4d44809fd0fbc0f… (all of the seat's roots in one cut). By AI agents, Wed Nov 11 2026. No macro, syntax, notation, axiom, sorry.
-/
import Derived.Test.YtdelipmhginegaaChecked
import GoSem.Claim
import GoSem.ClaimJoined
import GoSem.ClaimMapViews
import Derived.JoinedTies
import Derived.KernelRfl
namespace Go.Proofs.Ytdelipmhginegaa
/- THE CELL 'sum', in the pinned program and in every row, IS THE sha256 OF THE DUMP (.gsa) THAT YtdelipmhginegaaProg.lean LOADS. Nothing in Lean hashes anything: it is a label: what it is worth is what the hold of that sum in a sandbox is worth. -/
noncomputable def Try.pinned : Pinned := { name := "ytdelipmhginegaa", sum := "e4d44809fd0fbc0f1b06a9467e9635b6eddc864f61bd2856e1a34d92454bac0f", checked := Try.checked }
namespace Rows
def none {H : Type} : Left H := { results := [], args := [] }

/-- 'postilionlaw08.HeadFirst': WHATEVER THE INPUT: true; the input reads as it did. -/
def headFirstSpec : ChangeSpec := { name := "headFirst", fn := fun _ => fun
  | [d1, d2] => { results := [.lit (.bool true)], args := [d1, d2] }
  | _ => none }
def headFirstRow : OpenClaim := { program := "ytdelipmhginegaa", sum := "e4d44809fd0fbc0f1b06a9467e9635b6eddc864f61bd2856e1a34d92454bac0f", func := "postilion/postilionlaw08.HeadFirst", spec := "headFirst", apart := false }
def HeadFirstSaid : Prop := headFirstRow.holds Try.pinned (OpenSpec.ofChange headFirstSpec)

/-- ITS FALSE NEIGHBOUR: 'it returns false'. Refute it at one input. -/
def headFirstWrong : ChangeSpec := { name := "headFirst", fn := fun _ => fun
  | [d1, d2] => { results := [.lit (.bool false)], args := [d1, d2] }
  | _ => none }
def HeadFirstWrongFalsely : Prop := headFirstRow.holds Try.pinned (OpenSpec.ofChange headFirstWrong)

/-- 'postilionlaw16.WaitForms': WHATEVER THE INPUT: true; the input reads as it did. -/
def waitFormsSpec : ChangeSpec := { name := "waitForms", fn := fun _ => fun
  | [d] => { results := [.lit (.bool true)], args := [d] }
  | _ => none }
def waitFormsRow : OpenClaim := { program := "ytdelipmhginegaa", sum := "e4d44809fd0fbc0f1b06a9467e9635b6eddc864f61bd2856e1a34d92454bac0f", func := "postilion/postilionlaw16.WaitForms", spec := "waitForms", apart := false }
def WaitFormsSaid : Prop := waitFormsRow.holds Try.pinned (OpenSpec.ofChange waitFormsSpec)

/-- ITS FALSE NEIGHBOUR: 'it returns false'. Refute it at one input. -/
def waitFormsWrong : ChangeSpec := { name := "waitForms", fn := fun _ => fun
  | [d] => { results := [.lit (.bool false)], args := [d] }
  | _ => none }
def WaitFormsWrongFalsely : Prop := waitFormsRow.holds Try.pinned (OpenSpec.ofChange waitFormsWrong)

/-- 'postilionlaw16.WaitTells': WHATEVER THE INPUT: true; the input reads as it did. -/
def waitTellsSpec : ChangeSpec := { name := "waitTells", fn := fun _ => fun
  | [d1, d2, d3, d4] => { results := [.lit (.bool true)], args := [d1, d2, d3, d4] }
  | _ => none }
def waitTellsRow : OpenClaim := { program := "ytdelipmhginegaa", sum := "e4d44809fd0fbc0f1b06a9467e9635b6eddc864f61bd2856e1a34d92454bac0f", func := "postilion/postilionlaw16.WaitTells", spec := "waitTells", apart := false }
def WaitTellsSaid : Prop := waitTellsRow.holds Try.pinned (OpenSpec.ofChange waitTellsSpec)

/-- ITS FALSE NEIGHBOUR: 'it returns false'. Refute it at one input. -/
def waitTellsWrong : ChangeSpec := { name := "waitTells", fn := fun _ => fun
  | [d1, d2, d3, d4] => { results := [.lit (.bool false)], args := [d1, d2, d3, d4] }
  | _ => none }
def WaitTellsWrongFalsely : Prop := waitTellsRow.holds Try.pinned (OpenSpec.ofChange waitTellsWrong)

/-- 'postilionlaw16.WaitGrows': WHATEVER THE INPUT: true; the input reads as it did. -/
def waitGrowsSpec : ChangeSpec := { name := "waitGrows", fn := fun _ => fun
  | [d1, d2] => { results := [.lit (.bool true)], args := [d1, d2] }
  | _ => none }
def waitGrowsRow : OpenClaim := { program := "ytdelipmhginegaa", sum := "e4d44809fd0fbc0f1b06a9467e9635b6eddc864f61bd2856e1a34d92454bac0f", func := "postilion/postilionlaw16.WaitGrows", spec := "waitGrows", recurses := true, apart := false }
def WaitGrowsSaid : Prop := waitGrowsRow.holds Try.pinned (OpenSpec.ofChange waitGrowsSpec)

/-- ITS FALSE NEIGHBOUR: 'it returns false'. Refute it at one input. -/
def waitGrowsWrong : ChangeSpec := { name := "waitGrows", fn := fun _ => fun
  | [d1, d2] => { results := [.lit (.bool false)], args := [d1, d2] }
  | _ => none }
def WaitGrowsWrongFalsely : Prop := waitGrowsRow.holds Try.pinned (OpenSpec.ofChange waitGrowsWrong)

/-- 'postilionlaw16.WaitLeast': WHATEVER THE INPUT: true; the input reads as it did. -/
def waitLeastSpec : ChangeSpec := { name := "waitLeast", fn := fun _ => fun
  | [d1, d2, d3, d4] => { results := [.lit (.bool true)], args := [d1, d2, d3, d4] }
  | _ => none }
def waitLeastRow : OpenClaim := { program := "ytdelipmhginegaa", sum := "e4d44809fd0fbc0f1b06a9467e9635b6eddc864f61bd2856e1a34d92454bac0f", func := "postilion/postilionlaw16.WaitLeast", spec := "waitLeast", recurses := true, apart := false }
def WaitLeastSaid : Prop := waitLeastRow.holds Try.pinned (OpenSpec.ofChange waitLeastSpec)

/-- ITS FALSE NEIGHBOUR: 'it returns false'. Refute it at one input. -/
def waitLeastWrong : ChangeSpec := { name := "waitLeast", fn := fun _ => fun
  | [d1, d2, d3, d4] => { results := [.lit (.bool false)], args := [d1, d2, d3, d4] }
  | _ => none }
def WaitLeastWrongFalsely : Prop := waitLeastRow.holds Try.pinned (OpenSpec.ofChange waitLeastWrong)

/- THE SECOND FORM. 'bulk': how many values and letters a reading holds, each counted each time it is reached (what is shared counts as often as it is met; a slice's spare places count too). A statement '..UptoSaid' is the law's where the arguments, and the package variables that the reading takes, are together of bulk at most 1048576: NARROWER than '..Said'. Prove '..Said' where nothing that the law and all that it calls make is longer than what came in: it says more and counts as full. Else prove '..UptoSaid'. A law counts once. -/
mutual
def uptoBulk {H : Type} : DataW H → Nat
  | .lit (.string bytes) => bytes.length + 1
  | .lit _ => 1
  | .nil => 1
  | .ptr d => uptoBulk d + 1
  | .slice elems spare => uptoBulkAll elems + uptoBulkAll spare + 1
  | .agg parts => uptoBulkAll parts + 1
  | .iface _ d => uptoBulk d + 1
  | .map entries => uptoBulkEntries entries + 1
  | .held _ => 1
def uptoBulkAll {H : Type} : List (DataW H) → Nat
  | [] => 0
  | d :: r => uptoBulk d + uptoBulkAll r
def uptoBulkEntries {H : Type} : List (Lit × DataW H) → Nat
  | [] => 0
  | x :: r => uptoBulkEntry x + uptoBulkEntries r
def uptoBulkEntry {H : Type} : Lit × DataW H → Nat
  | (.string bytes, d) => bytes.length + uptoBulk d + 1
  | (_, d) => uptoBulk d + 1
 end
def uptoSmall : (H : Type) → List (DataW H) → Bool := fun _ ds => decide (uptoBulkAll ds ≤ 1048576)
def OpenSpec.upto (s : _root_.Go.ChangeSpec) : _root_.Go.OpenSpec := { _root_.Go.OpenSpec.ofChange s with cond := some uptoSmall }

/-- 'postilionlaw08.HeadFirst', WHERE WHAT IT READS IS OF BULK AT MOST 1048576: true; the input reads as it did. -/
def headFirstUptoRow : OpenClaim := { program := "ytdelipmhginegaa", sum := "e4d44809fd0fbc0f1b06a9467e9635b6eddc864f61bd2856e1a34d92454bac0f", func := "postilion/postilionlaw08.HeadFirst", spec := "headFirst", apart := false, narrowed := true }
def HeadFirstUptoSaid : Prop := headFirstUptoRow.holds Try.pinned (OpenSpec.upto headFirstSpec)

/-- 'postilionlaw16.WaitForms', WHERE WHAT IT READS IS OF BULK AT MOST 1048576: true; the input reads as it did. -/
def waitFormsUptoRow : OpenClaim := { program := "ytdelipmhginegaa", sum := "e4d44809fd0fbc0f1b06a9467e9635b6eddc864f61bd2856e1a34d92454bac0f", func := "postilion/postilionlaw16.WaitForms", spec := "waitForms", apart := false, narrowed := true }
def WaitFormsUptoSaid : Prop := waitFormsUptoRow.holds Try.pinned (OpenSpec.upto waitFormsSpec)

/-- 'postilionlaw16.WaitTells', WHERE WHAT IT READS IS OF BULK AT MOST 1048576: true; the input reads as it did. -/
def waitTellsUptoRow : OpenClaim := { program := "ytdelipmhginegaa", sum := "e4d44809fd0fbc0f1b06a9467e9635b6eddc864f61bd2856e1a34d92454bac0f", func := "postilion/postilionlaw16.WaitTells", spec := "waitTells", apart := false, narrowed := true }
def WaitTellsUptoSaid : Prop := waitTellsUptoRow.holds Try.pinned (OpenSpec.upto waitTellsSpec)

/-- 'postilionlaw16.WaitGrows', WHERE WHAT IT READS IS OF BULK AT MOST 1048576: true; the input reads as it did. -/
def waitGrowsUptoRow : OpenClaim := { program := "ytdelipmhginegaa", sum := "e4d44809fd0fbc0f1b06a9467e9635b6eddc864f61bd2856e1a34d92454bac0f", func := "postilion/postilionlaw16.WaitGrows", spec := "waitGrows", recurses := true, apart := false, narrowed := true }
def WaitGrowsUptoSaid : Prop := waitGrowsUptoRow.holds Try.pinned (OpenSpec.upto waitGrowsSpec)

/-- 'postilionlaw16.WaitLeast', WHERE WHAT IT READS IS OF BULK AT MOST 1048576: true; the input reads as it did. -/
def waitLeastUptoRow : OpenClaim := { program := "ytdelipmhginegaa", sum := "e4d44809fd0fbc0f1b06a9467e9635b6eddc864f61bd2856e1a34d92454bac0f", func := "postilion/postilionlaw16.WaitLeast", spec := "waitLeast", recurses := true, apart := false, narrowed := true }
def WaitLeastUptoSaid : Prop := waitLeastUptoRow.holds Try.pinned (OpenSpec.upto waitLeastSpec)

end Rows
end Go.Proofs.Ytdelipmhginegaa
