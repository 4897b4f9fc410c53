/-
  No cell of these rows narrows 'for every input' (looked for: loops, veiled, ifaces, maps, wideKeys, modest, calm, conditions, laid).
  DERIVED. THE GIVEN ROWS OF THIS SEAT. 5 by the template 'for every input the law returns true; each argument reads behind the call as it read before'; 0 by the template 'total and deterministic' (their statements: YtnnaplcddhjfbaaTotals.lean).
  GIVEN WITH THE SEED: the statements are not yours to turn. If you find one false, say at which input.
  Laid BY PROGRAM, IN A SANDBOX (cutbox-rows.mjs): the forced cells as the released guide's own fill.sh prints them over the translation 8ed4af22c9633c9c… (all of the seat's roots in one cut). By AI agents, Wed Nov 11 2026. No macro, syntax, notation, axiom, sorry.
-/
import Derived.Test.YtnnaplcddhjfbaaChecked
import GoSem.Claim
import GoSem.ClaimJoined
import GoSem.ClaimMapViews
import Derived.JoinedTies
import Derived.KernelRfl
namespace Go.Proofs.Ytnnaplcddhjfbaa
/- THE CELL 'sum', in the pinned program and in every row, IS THE sha256 OF THE DUMP (.gsa) THAT YtnnaplcddhjfbaaProg.lean LOADS. Nothing in Lean hashes anything: it is a label: what it is worth is what the hold of that sum in a sandbox is worth. -/
noncomputable def Try.pinned : Pinned := { name := "ytnnaplcddhjfbaa", sum := "8ed4af22c9633c9c5e5a32aaffbff3778804264cbada6c6a882bea62b4b8e142", checked := Try.checked }
namespace Rows
def none {H : Type} : Left H := { results := [], args := [] }

/-- 'postilionlaw02.MarkForms': WHATEVER THE INPUT: true; the input reads as it did. -/
def markFormsSpec : ChangeSpec := { name := "markForms", fn := fun _ => fun
  | [d] => { results := [.lit (.bool true)], args := [d] }
  | _ => none }
def markFormsRow : OpenClaim := { program := "ytnnaplcddhjfbaa", sum := "8ed4af22c9633c9c5e5a32aaffbff3778804264cbada6c6a882bea62b4b8e142", func := "postilion/postilionlaw02.MarkForms", spec := "markForms", plainKeys := false, apart := false }
def MarkFormsSaid : Prop := markFormsRow.holds Try.pinned (OpenSpec.ofChange markFormsSpec)

/-- ITS FALSE NEIGHBOUR: 'it returns false'. Refute it at one input. -/
def markFormsWrong : ChangeSpec := { name := "markForms", fn := fun _ => fun
  | [d] => { results := [.lit (.bool false)], args := [d] }
  | _ => none }
def MarkFormsWrongFalsely : Prop := markFormsRow.holds Try.pinned (OpenSpec.ofChange markFormsWrong)

/-- 'postilionlaw02.MarkBack': WHATEVER THE INPUT: true; the input reads as it did. -/
def markBackSpec : ChangeSpec := { name := "markBack", fn := fun _ => fun
  | [d1, d2, d3, d4, d5, d6, d7] => { results := [.lit (.bool true)], args := [d1, d2, d3, d4, d5, d6, d7] }
  | _ => none }
def markBackRow : OpenClaim := { program := "ytnnaplcddhjfbaa", sum := "8ed4af22c9633c9c5e5a32aaffbff3778804264cbada6c6a882bea62b4b8e142", func := "postilion/postilionlaw02.MarkBack", spec := "markBack", unfollowed := true, recurses := true, plainKeys := false, apart := false }
def MarkBackSaid : Prop := markBackRow.holds Try.pinned (OpenSpec.ofChange markBackSpec)

/-- ITS FALSE NEIGHBOUR: 'it returns false'. Refute it at one input. -/
def markBackWrong : ChangeSpec := { name := "markBack", fn := fun _ => fun
  | [d1, d2, d3, d4, d5, d6, d7] => { results := [.lit (.bool false)], args := [d1, d2, d3, d4, d5, d6, d7] }
  | _ => none }
def MarkBackWrongFalsely : Prop := markBackRow.holds Try.pinned (OpenSpec.ofChange markBackWrong)

/-- 'postilionlaw02.MarkHalves': WHATEVER THE INPUT: true; the input reads as it did. -/
def markHalvesSpec : ChangeSpec := { name := "markHalves", fn := fun _ => fun
  | [d1, d2, d3, d4, d5, d6] => { results := [.lit (.bool true)], args := [d1, d2, d3, d4, d5, d6] }
  | _ => none }
def markHalvesRow : OpenClaim := { program := "ytnnaplcddhjfbaa", sum := "8ed4af22c9633c9c5e5a32aaffbff3778804264cbada6c6a882bea62b4b8e142", func := "postilion/postilionlaw02.MarkHalves", spec := "markHalves", unfollowed := true, recurses := true, plainKeys := false, apart := false }
def MarkHalvesSaid : Prop := markHalvesRow.holds Try.pinned (OpenSpec.ofChange markHalvesSpec)

/-- ITS FALSE NEIGHBOUR: 'it returns false'. Refute it at one input. -/
def markHalvesWrong : ChangeSpec := { name := "markHalves", fn := fun _ => fun
  | [d1, d2, d3, d4, d5, d6] => { results := [.lit (.bool false)], args := [d1, d2, d3, d4, d5, d6] }
  | _ => none }
def MarkHalvesWrongFalsely : Prop := markHalvesRow.holds Try.pinned (OpenSpec.ofChange markHalvesWrong)

/-- 'postilionlaw02.MarkTells': WHATEVER THE INPUT: true; the input reads as it did. -/
def markTellsSpec : ChangeSpec := { name := "markTells", fn := fun _ => fun
  | [d1, d2, d3, d4, d5, d6, d7, d8, d9] => { results := [.lit (.bool true)], args := [d1, d2, d3, d4, d5, d6, d7, d8, d9] }
  | _ => none }
def markTellsRow : OpenClaim := { program := "ytnnaplcddhjfbaa", sum := "8ed4af22c9633c9c5e5a32aaffbff3778804264cbada6c6a882bea62b4b8e142", func := "postilion/postilionlaw02.MarkTells", spec := "markTells", unfollowed := true, recurses := true, plainKeys := false, apart := false }
def MarkTellsSaid : Prop := markTellsRow.holds Try.pinned (OpenSpec.ofChange markTellsSpec)

/-- ITS FALSE NEIGHBOUR: 'it returns false'. Refute it at one input. -/
def markTellsWrong : ChangeSpec := { name := "markTells", fn := fun _ => fun
  | [d1, d2, d3, d4, d5, d6, d7, d8, d9] => { results := [.lit (.bool false)], args := [d1, d2, d3, d4, d5, d6, d7, d8, d9] }
  | _ => none }
def MarkTellsWrongFalsely : Prop := markTellsRow.holds Try.pinned (OpenSpec.ofChange markTellsWrong)

/-- 'postilionlaw02.MarkTears': WHATEVER THE INPUT: true; the input reads as it did. -/
def markTearsSpec : ChangeSpec := { name := "markTears", fn := fun _ => fun
  | [d1, d2, d3, d4] => { results := [.lit (.bool true)], args := [d1, d2, d3, d4] }
  | _ => none }
def markTearsRow : OpenClaim := { program := "ytnnaplcddhjfbaa", sum := "8ed4af22c9633c9c5e5a32aaffbff3778804264cbada6c6a882bea62b4b8e142", func := "postilion/postilionlaw02.MarkTears", spec := "markTears", unfollowed := true, recurses := true, plainKeys := false, apart := false }
def MarkTearsSaid : Prop := markTearsRow.holds Try.pinned (OpenSpec.ofChange markTearsSpec)

/-- ITS FALSE NEIGHBOUR: 'it returns false'. Refute it at one input. -/
def markTearsWrong : ChangeSpec := { name := "markTears", fn := fun _ => fun
  | [d1, d2, d3, d4] => { results := [.lit (.bool false)], args := [d1, d2, d3, d4] }
  | _ => none }
def MarkTearsWrongFalsely : Prop := markTearsRow.holds Try.pinned (OpenSpec.ofChange markTearsWrong)

/- THE SECOND FORM. 'bulk': how many values and letters a reading holds, each counted each time it is reached (what is shared counts as often as it is met; a slice's spare places count too). A statement '..UptoSaid' is the law's where the arguments, and the package variables that the reading takes, are together of bulk at most 1048576: NARROWER than '..Said'. Prove '..Said' where nothing that the law and all that it calls make is longer than what came in: it says more and counts as full. Else prove '..UptoSaid'. A law counts once. -/
mutual
def uptoBulk {H : Type} : DataW H → Nat
  | .lit (.string bytes) => bytes.length + 1
  | .lit _ => 1
  | .nil => 1
  | .ptr d => uptoBulk d + 1
  | .slice elems spare => uptoBulkAll elems + uptoBulkAll spare + 1
  | .agg parts => uptoBulkAll parts + 1
  | .iface _ d => uptoBulk d + 1
  | .map entries => uptoBulkEntries entries + 1
  | .held _ => 1
def uptoBulkAll {H : Type} : List (DataW H) → Nat
  | [] => 0
  | d :: r => uptoBulk d + uptoBulkAll r
def uptoBulkEntries {H : Type} : List (Lit × DataW H) → Nat
  | [] => 0
  | x :: r => uptoBulkEntry x + uptoBulkEntries r
def uptoBulkEntry {H : Type} : Lit × DataW H → Nat
  | (.string bytes, d) => bytes.length + uptoBulk d + 1
  | (_, d) => uptoBulk d + 1
 end
def uptoSmall : (H : Type) → List (DataW H) → Bool := fun _ ds => decide (uptoBulkAll ds ≤ 1048576)
def OpenSpec.upto (s : _root_.Go.ChangeSpec) : _root_.Go.OpenSpec := { _root_.Go.OpenSpec.ofChange s with cond := some uptoSmall }

/-- 'postilionlaw02.MarkForms', WHERE WHAT IT READS IS OF BULK AT MOST 1048576: true; the input reads as it did. -/
def markFormsUptoRow : OpenClaim := { program := "ytnnaplcddhjfbaa", sum := "8ed4af22c9633c9c5e5a32aaffbff3778804264cbada6c6a882bea62b4b8e142", func := "postilion/postilionlaw02.MarkForms", spec := "markForms", plainKeys := false, apart := false, narrowed := true }
def MarkFormsUptoSaid : Prop := markFormsUptoRow.holds Try.pinned (OpenSpec.upto markFormsSpec)

/-- 'postilionlaw02.MarkBack', WHERE WHAT IT READS IS OF BULK AT MOST 1048576: true; the input reads as it did. -/
def markBackUptoRow : OpenClaim := { program := "ytnnaplcddhjfbaa", sum := "8ed4af22c9633c9c5e5a32aaffbff3778804264cbada6c6a882bea62b4b8e142", func := "postilion/postilionlaw02.MarkBack", spec := "markBack", unfollowed := true, recurses := true, plainKeys := false, apart := false, narrowed := true }
def MarkBackUptoSaid : Prop := markBackUptoRow.holds Try.pinned (OpenSpec.upto markBackSpec)

/-- 'postilionlaw02.MarkHalves', WHERE WHAT IT READS IS OF BULK AT MOST 1048576: true; the input reads as it did. -/
def markHalvesUptoRow : OpenClaim := { program := "ytnnaplcddhjfbaa", sum := "8ed4af22c9633c9c5e5a32aaffbff3778804264cbada6c6a882bea62b4b8e142", func := "postilion/postilionlaw02.MarkHalves", spec := "markHalves", unfollowed := true, recurses := true, plainKeys := false, apart := false, narrowed := true }
def MarkHalvesUptoSaid : Prop := markHalvesUptoRow.holds Try.pinned (OpenSpec.upto markHalvesSpec)

/-- 'postilionlaw02.MarkTells', WHERE WHAT IT READS IS OF BULK AT MOST 1048576: true; the input reads as it did. -/
def markTellsUptoRow : OpenClaim := { program := "ytnnaplcddhjfbaa", sum := "8ed4af22c9633c9c5e5a32aaffbff3778804264cbada6c6a882bea62b4b8e142", func := "postilion/postilionlaw02.MarkTells", spec := "markTells", unfollowed := true, recurses := true, plainKeys := false, apart := false, narrowed := true }
def MarkTellsUptoSaid : Prop := markTellsUptoRow.holds Try.pinned (OpenSpec.upto markTellsSpec)

/-- 'postilionlaw02.MarkTears', WHERE WHAT IT READS IS OF BULK AT MOST 1048576: true; the input reads as it did. -/
def markTearsUptoRow : OpenClaim := { program := "ytnnaplcddhjfbaa", sum := "8ed4af22c9633c9c5e5a32aaffbff3778804264cbada6c6a882bea62b4b8e142", func := "postilion/postilionlaw02.MarkTears", spec := "markTears", unfollowed := true, recurses := true, plainKeys := false, apart := false, narrowed := true }
def MarkTearsUptoSaid : Prop := markTearsUptoRow.holds Try.pinned (OpenSpec.upto markTearsSpec)

end Rows
end Go.Proofs.Ytnnaplcddhjfbaa
