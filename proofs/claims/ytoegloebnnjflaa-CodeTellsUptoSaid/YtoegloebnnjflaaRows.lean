/-
  No cell of these rows narrows 'for every input' (looked for: loops, veiled, ifaces, maps, wideKeys, modest, calm, conditions, laid).
  DERIVED. THE GIVEN ROWS OF THIS SEAT. 5 by the template 'for every input the law returns true; each argument reads behind the call as it read before'; 0 by the template 'total and deterministic' (their statements: YtoegloebnnjflaaTotals.lean).
  GIVEN WITH THE SEED: the statements are not yours to turn. If you find one false, say at which input.
  Laid BY PROGRAM, IN A SANDBOX (cutbox-rows.mjs): the forced cells as the released guide's own fill.sh prints them over the translation 7b28b22a58570d41… (all of the seat's roots in one cut). By AI agents, Wed Nov 11 2026. No macro, syntax, notation, axiom, sorry.
-/
import Derived.Test.YtoegloebnnjflaaChecked
import GoSem.Claim
import GoSem.ClaimJoined
import GoSem.ClaimMapViews
import Derived.JoinedTies
import Derived.KernelRfl
namespace Go.Proofs.Ytoegloebnnjflaa
/- THE CELL 'sum', in the pinned program and in every row, IS THE sha256 OF THE DUMP (.gsa) THAT YtoegloebnnjflaaProg.lean LOADS. Nothing in Lean hashes anything: it is a label: what it is worth is what the hold of that sum in a sandbox is worth. -/
noncomputable def Try.pinned : Pinned := { name := "ytoegloebnnjflaa", sum := "7b28b22a58570d416997c8e477f3e2cd29a01cb3b0ceec99e036099ef44d3af4", checked := Try.checked }
namespace Rows
def none {H : Type} : Left H := { results := [], args := [] }

/-- 'postilionlaw05.CodeJoins': WHATEVER THE INPUT: true; the input reads as it did. -/
def codeJoinsSpec : ChangeSpec := { name := "codeJoins", fn := fun _ => fun
  | [d1, d2, d3, d4] => { results := [.lit (.bool true)], args := [d1, d2, d3, d4] }
  | _ => none }
def codeJoinsRow : OpenClaim := { program := "ytoegloebnnjflaa", sum := "7b28b22a58570d416997c8e477f3e2cd29a01cb3b0ceec99e036099ef44d3af4", func := "postilion/postilionlaw05.CodeJoins", spec := "codeJoins", apart := false }
def CodeJoinsSaid : Prop := codeJoinsRow.holds Try.pinned (OpenSpec.ofChange codeJoinsSpec)

/-- ITS FALSE NEIGHBOUR: 'it returns false'. Refute it at one input. -/
def codeJoinsWrong : ChangeSpec := { name := "codeJoins", fn := fun _ => fun
  | [d1, d2, d3, d4] => { results := [.lit (.bool false)], args := [d1, d2, d3, d4] }
  | _ => none }
def CodeJoinsWrongFalsely : Prop := codeJoinsRow.holds Try.pinned (OpenSpec.ofChange codeJoinsWrong)

/-- 'postilionlaw05.CodeMust': WHATEVER THE INPUT: true; the input reads as it did. -/
def codeMustSpec : ChangeSpec := { name := "codeMust", fn := fun _ => fun
  | [d1, d2, d3] => { results := [.lit (.bool true)], args := [d1, d2, d3] }
  | _ => none }
def codeMustRow : OpenClaim := { program := "ytoegloebnnjflaa", sum := "7b28b22a58570d416997c8e477f3e2cd29a01cb3b0ceec99e036099ef44d3af4", func := "postilion/postilionlaw05.CodeMust", spec := "codeMust", unfollowed := true, recurses := true, apart := false }
def CodeMustSaid : Prop := codeMustRow.holds Try.pinned (OpenSpec.ofChange codeMustSpec)

/-- ITS FALSE NEIGHBOUR: 'it returns false'. Refute it at one input. -/
def codeMustWrong : ChangeSpec := { name := "codeMust", fn := fun _ => fun
  | [d1, d2, d3] => { results := [.lit (.bool false)], args := [d1, d2, d3] }
  | _ => none }
def CodeMustWrongFalsely : Prop := codeMustRow.holds Try.pinned (OpenSpec.ofChange codeMustWrong)

/-- 'postilionlaw05.CodeForms': WHATEVER THE INPUT: true; the input reads as it did. -/
def codeFormsSpec : ChangeSpec := { name := "codeForms", fn := fun _ => fun
  | [d] => { results := [.lit (.bool true)], args := [d] }
  | _ => none }
def codeFormsRow : OpenClaim := { program := "ytoegloebnnjflaa", sum := "7b28b22a58570d416997c8e477f3e2cd29a01cb3b0ceec99e036099ef44d3af4", func := "postilion/postilionlaw05.CodeForms", spec := "codeForms", apart := false }
def CodeFormsSaid : Prop := codeFormsRow.holds Try.pinned (OpenSpec.ofChange codeFormsSpec)

/-- ITS FALSE NEIGHBOUR: 'it returns false'. Refute it at one input. -/
def codeFormsWrong : ChangeSpec := { name := "codeForms", fn := fun _ => fun
  | [d] => { results := [.lit (.bool false)], args := [d] }
  | _ => none }
def CodeFormsWrongFalsely : Prop := codeFormsRow.holds Try.pinned (OpenSpec.ofChange codeFormsWrong)

/-- 'postilionlaw05.CodeTells': WHATEVER THE INPUT: true; the input reads as it did. -/
def codeTellsSpec : ChangeSpec := { name := "codeTells", fn := fun _ => fun
  | [d1, d2, d3, d4, d5, d6] => { results := [.lit (.bool true)], args := [d1, d2, d3, d4, d5, d6] }
  | _ => none }
def codeTellsRow : OpenClaim := { program := "ytoegloebnnjflaa", sum := "7b28b22a58570d416997c8e477f3e2cd29a01cb3b0ceec99e036099ef44d3af4", func := "postilion/postilionlaw05.CodeTells", spec := "codeTells", apart := false }
def CodeTellsSaid : Prop := codeTellsRow.holds Try.pinned (OpenSpec.ofChange codeTellsSpec)

/-- ITS FALSE NEIGHBOUR: 'it returns false'. Refute it at one input. -/
def codeTellsWrong : ChangeSpec := { name := "codeTells", fn := fun _ => fun
  | [d1, d2, d3, d4, d5, d6] => { results := [.lit (.bool false)], args := [d1, d2, d3, d4, d5, d6] }
  | _ => none }
def CodeTellsWrongFalsely : Prop := codeTellsRow.holds Try.pinned (OpenSpec.ofChange codeTellsWrong)

/-- 'postilionlaw05.CodeBack': WHATEVER THE INPUT: true; the input reads as it did. -/
def codeBackSpec : ChangeSpec := { name := "codeBack", fn := fun _ => fun
  | [d1, d2, d3] => { results := [.lit (.bool true)], args := [d1, d2, d3] }
  | _ => none }
def codeBackRow : OpenClaim := { program := "ytoegloebnnjflaa", sum := "7b28b22a58570d416997c8e477f3e2cd29a01cb3b0ceec99e036099ef44d3af4", func := "postilion/postilionlaw05.CodeBack", spec := "codeBack", apart := false }
def CodeBackSaid : Prop := codeBackRow.holds Try.pinned (OpenSpec.ofChange codeBackSpec)

/-- ITS FALSE NEIGHBOUR: 'it returns false'. Refute it at one input. -/
def codeBackWrong : ChangeSpec := { name := "codeBack", fn := fun _ => fun
  | [d1, d2, d3] => { results := [.lit (.bool false)], args := [d1, d2, d3] }
  | _ => none }
def CodeBackWrongFalsely : Prop := codeBackRow.holds Try.pinned (OpenSpec.ofChange codeBackWrong)

/- THE SECOND FORM. 'bulk': how many values and letters a reading holds, each counted each time it is reached (what is shared counts as often as it is met; a slice's spare places count too). A statement '..UptoSaid' is the law's where the arguments, and the package variables that the reading takes, are together of bulk at most 1048576: NARROWER than '..Said'. Prove '..Said' where nothing that the law and all that it calls make is longer than what came in: it says more and counts as full. Else prove '..UptoSaid'. A law counts once. -/
mutual
def uptoBulk {H : Type} : DataW H → Nat
  | .lit (.string bytes) => bytes.length + 1
  | .lit _ => 1
  | .nil => 1
  | .ptr d => uptoBulk d + 1
  | .slice elems spare => uptoBulkAll elems + uptoBulkAll spare + 1
  | .agg parts => uptoBulkAll parts + 1
  | .iface _ d => uptoBulk d + 1
  | .map entries => uptoBulkEntries entries + 1
  | .held _ => 1
def uptoBulkAll {H : Type} : List (DataW H) → Nat
  | [] => 0
  | d :: r => uptoBulk d + uptoBulkAll r
def uptoBulkEntries {H : Type} : List (Lit × DataW H) → Nat
  | [] => 0
  | x :: r => uptoBulkEntry x + uptoBulkEntries r
def uptoBulkEntry {H : Type} : Lit × DataW H → Nat
  | (.string bytes, d) => bytes.length + uptoBulk d + 1
  | (_, d) => uptoBulk d + 1
 end
def uptoSmall : (H : Type) → List (DataW H) → Bool := fun _ ds => decide (uptoBulkAll ds ≤ 1048576)
def OpenSpec.upto (s : _root_.Go.ChangeSpec) : _root_.Go.OpenSpec := { _root_.Go.OpenSpec.ofChange s with cond := some uptoSmall }

/-- 'postilionlaw05.CodeJoins', WHERE WHAT IT READS IS OF BULK AT MOST 1048576: true; the input reads as it did. -/
def codeJoinsUptoRow : OpenClaim := { program := "ytoegloebnnjflaa", sum := "7b28b22a58570d416997c8e477f3e2cd29a01cb3b0ceec99e036099ef44d3af4", func := "postilion/postilionlaw05.CodeJoins", spec := "codeJoins", apart := false, narrowed := true }
def CodeJoinsUptoSaid : Prop := codeJoinsUptoRow.holds Try.pinned (OpenSpec.upto codeJoinsSpec)

/-- 'postilionlaw05.CodeMust', WHERE WHAT IT READS IS OF BULK AT MOST 1048576: true; the input reads as it did. -/
def codeMustUptoRow : OpenClaim := { program := "ytoegloebnnjflaa", sum := "7b28b22a58570d416997c8e477f3e2cd29a01cb3b0ceec99e036099ef44d3af4", func := "postilion/postilionlaw05.CodeMust", spec := "codeMust", unfollowed := true, recurses := true, apart := false, narrowed := true }
def CodeMustUptoSaid : Prop := codeMustUptoRow.holds Try.pinned (OpenSpec.upto codeMustSpec)

/-- 'postilionlaw05.CodeForms', WHERE WHAT IT READS IS OF BULK AT MOST 1048576: true; the input reads as it did. -/
def codeFormsUptoRow : OpenClaim := { program := "ytoegloebnnjflaa", sum := "7b28b22a58570d416997c8e477f3e2cd29a01cb3b0ceec99e036099ef44d3af4", func := "postilion/postilionlaw05.CodeForms", spec := "codeForms", apart := false, narrowed := true }
def CodeFormsUptoSaid : Prop := codeFormsUptoRow.holds Try.pinned (OpenSpec.upto codeFormsSpec)

/-- 'postilionlaw05.CodeTells', WHERE WHAT IT READS IS OF BULK AT MOST 1048576: true; the input reads as it did. -/
def codeTellsUptoRow : OpenClaim := { program := "ytoegloebnnjflaa", sum := "7b28b22a58570d416997c8e477f3e2cd29a01cb3b0ceec99e036099ef44d3af4", func := "postilion/postilionlaw05.CodeTells", spec := "codeTells", apart := false, narrowed := true }
def CodeTellsUptoSaid : Prop := codeTellsUptoRow.holds Try.pinned (OpenSpec.upto codeTellsSpec)

/-- 'postilionlaw05.CodeBack', WHERE WHAT IT READS IS OF BULK AT MOST 1048576: true; the input reads as it did. -/
def codeBackUptoRow : OpenClaim := { program := "ytoegloebnnjflaa", sum := "7b28b22a58570d416997c8e477f3e2cd29a01cb3b0ceec99e036099ef44d3af4", func := "postilion/postilionlaw05.CodeBack", spec := "codeBack", apart := false, narrowed := true }
def CodeBackUptoSaid : Prop := codeBackUptoRow.holds Try.pinned (OpenSpec.upto codeBackSpec)

end Rows
end Go.Proofs.Ytoegloebnnjflaa
