/-
  No cell of these rows narrows 'for every input' (looked for: loops, veiled, ifaces, maps, wideKeys, modest, calm, conditions, laid).
  DERIVED. THE GIVEN ROWS OF THIS SEAT. 5 by the template 'for every input the law returns true; each argument reads behind the call as it read before'; 0 by the template 'total and deterministic' (their statements: YtadgbifmiooikaaGreatTotals.lean).
  GIVEN WITH THE SEED: the statements are not yours to turn. If you find one false, say at which input.
  Laid BY PROGRAM, IN A SANDBOX (cutbox-rows.mjs): the forced cells as the released guide's own fill.sh prints them over the translation f633a6f4f12776ab… (all of the seat's roots in one cut). By AI agents, Wed Nov 11 2026. No macro, syntax, notation, axiom, sorry.
-/
import Derived.Test.YtadgbifmiooikaaGreatChecked
import GoSem.Claim
import GoSem.ClaimJoined
import GoSem.ClaimMapViews
import Derived.JoinedTies
import Derived.KernelRfl
namespace Go.Proofs.YtadgbifmiooikaaGreat
/- THE CELL 'sum', in the pinned program and in every row, IS THE sha256 OF THE DUMP (.gsa) THAT YtadgbifmiooikaaGreatProg.lean LOADS. Nothing in Lean hashes anything: it is a label: what it is worth is what the hold of that sum in a sandbox is worth. -/
noncomputable def Tryz.pinned : Pinned := { name := "ytadgbifmiooikaagreat", sum := "f633a6f4f12776abdfc157629c76e3ee847f90e34d91280536ca4c3376629139", checked := Tryz.checked }
namespace Rows
def none {H : Type} : Left H := { results := [], args := [] }

/-- 'postilionlaw20.StoreIDs': WHATEVER THE INPUT: true; the input reads as it did. -/
def storeIDsSpec : ChangeSpec := { name := "storeIDs", fn := fun _ => fun
  | [d1, d2, d3] => { results := [.lit (.bool true)], args := [d1, d2, d3] }
  | _ => none }
def storeIDsRow : OpenClaim := { program := "ytadgbifmiooikaagreat", sum := "f633a6f4f12776abdfc157629c76e3ee847f90e34d91280536ca4c3376629139", func := "postilion/postilionlaw20.StoreIDs", spec := "storeIDs", unfollowed := true, recurses := true, apart := false }
def StoreIDsSaid : Prop := storeIDsRow.holds Tryz.pinned (OpenSpec.ofChange storeIDsSpec)

/-- ITS FALSE NEIGHBOUR: 'it returns false'. Refute it at one input. -/
def storeIDsWrong : ChangeSpec := { name := "storeIDs", fn := fun _ => fun
  | [d1, d2, d3] => { results := [.lit (.bool false)], args := [d1, d2, d3] }
  | _ => none }
def StoreIDsWrongFalsely : Prop := storeIDsRow.holds Tryz.pinned (OpenSpec.ofChange storeIDsWrong)

/-- 'postilionlaw20.StoreCrash': WHATEVER THE INPUT: true; the input reads as it did. -/
def storeCrashSpec : ChangeSpec := { name := "storeCrash", fn := fun _ => fun
  | [d1, d2, d3] => { results := [.lit (.bool true)], args := [d1, d2, d3] }
  | _ => none }
def storeCrashRow : OpenClaim := { program := "ytadgbifmiooikaagreat", sum := "f633a6f4f12776abdfc157629c76e3ee847f90e34d91280536ca4c3376629139", func := "postilion/postilionlaw20.StoreCrash", spec := "storeCrash", unfollowed := true, recurses := true, apart := false }
def StoreCrashSaid : Prop := storeCrashRow.holds Tryz.pinned (OpenSpec.ofChange storeCrashSpec)

/-- ITS FALSE NEIGHBOUR: 'it returns false'. Refute it at one input. -/
def storeCrashWrong : ChangeSpec := { name := "storeCrash", fn := fun _ => fun
  | [d1, d2, d3] => { results := [.lit (.bool false)], args := [d1, d2, d3] }
  | _ => none }
def StoreCrashWrongFalsely : Prop := storeCrashRow.holds Tryz.pinned (OpenSpec.ofChange storeCrashWrong)

/-- 'postilionlaw20.StoreFull': WHATEVER THE INPUT: true; the input reads as it did. -/
def storeFullSpec : ChangeSpec := { name := "storeFull", fn := fun _ => fun
  | [d1, d2] => { results := [.lit (.bool true)], args := [d1, d2] }
  | _ => none }
def storeFullRow : OpenClaim := { program := "ytadgbifmiooikaagreat", sum := "f633a6f4f12776abdfc157629c76e3ee847f90e34d91280536ca4c3376629139", func := "postilion/postilionlaw20.StoreFull", spec := "storeFull", unfollowed := true, recurses := true, apart := false }
def StoreFullSaid : Prop := storeFullRow.holds Tryz.pinned (OpenSpec.ofChange storeFullSpec)

/-- ITS FALSE NEIGHBOUR: 'it returns false'. Refute it at one input. -/
def storeFullWrong : ChangeSpec := { name := "storeFull", fn := fun _ => fun
  | [d1, d2] => { results := [.lit (.bool false)], args := [d1, d2] }
  | _ => none }
def StoreFullWrongFalsely : Prop := storeFullRow.holds Tryz.pinned (OpenSpec.ofChange storeFullWrong)

/-- 'postilionlaw20.StoreErrors': WHATEVER THE INPUT: true; the input reads as it did. -/
def storeErrorsSpec : ChangeSpec := { name := "storeErrors", fn := fun _ => fun
  | [d1, d2] => { results := [.lit (.bool true)], args := [d1, d2] }
  | _ => none }
def storeErrorsRow : OpenClaim := { program := "ytadgbifmiooikaagreat", sum := "f633a6f4f12776abdfc157629c76e3ee847f90e34d91280536ca4c3376629139", func := "postilion/postilionlaw20.StoreErrors", spec := "storeErrors", unfollowed := true, recurses := true, apart := false }
def StoreErrorsSaid : Prop := storeErrorsRow.holds Tryz.pinned (OpenSpec.ofChange storeErrorsSpec)

/-- ITS FALSE NEIGHBOUR: 'it returns false'. Refute it at one input. -/
def storeErrorsWrong : ChangeSpec := { name := "storeErrors", fn := fun _ => fun
  | [d1, d2] => { results := [.lit (.bool false)], args := [d1, d2] }
  | _ => none }
def StoreErrorsWrongFalsely : Prop := storeErrorsRow.holds Tryz.pinned (OpenSpec.ofChange storeErrorsWrong)

/-- 'postilionlaw20.StorePlays': WHATEVER THE INPUT: true; the input reads as it did. -/
def storePlaysSpec : ChangeSpec := { name := "storePlays", fn := fun _ => fun
  | [d] => { results := [.lit (.bool true)], args := [d] }
  | _ => none }
def storePlaysRow : OpenClaim := { program := "ytadgbifmiooikaagreat", sum := "f633a6f4f12776abdfc157629c76e3ee847f90e34d91280536ca4c3376629139", func := "postilion/postilionlaw20.StorePlays", spec := "storePlays", unfollowed := true, recurses := true, apart := false }
def StorePlaysSaid : Prop := storePlaysRow.holds Tryz.pinned (OpenSpec.ofChange storePlaysSpec)

/-- ITS FALSE NEIGHBOUR: 'it returns false'. Refute it at one input. -/
def storePlaysWrong : ChangeSpec := { name := "storePlays", fn := fun _ => fun
  | [d] => { results := [.lit (.bool false)], args := [d] }
  | _ => none }
def StorePlaysWrongFalsely : Prop := storePlaysRow.holds Tryz.pinned (OpenSpec.ofChange storePlaysWrong)

/- THE SECOND FORM. 'bulk': how many values and letters a reading holds, each counted each time it is reached (what is shared counts as often as it is met; a slice's spare places count too). A statement '..UptoSaid' is the law's where the arguments, and the package variables that the reading takes, are together of bulk at most 1048576: NARROWER than '..Said'. Prove '..Said' where nothing that the law and all that it calls make is longer than what came in: it says more and counts as full. Else prove '..UptoSaid'. A law counts once. -/
mutual
def uptoBulk {H : Type} : DataW H → Nat
  | .lit (.string bytes) => bytes.length + 1
  | .lit _ => 1
  | .nil => 1
  | .ptr d => uptoBulk d + 1
  | .slice elems spare => uptoBulkAll elems + uptoBulkAll spare + 1
  | .agg parts => uptoBulkAll parts + 1
  | .iface _ d => uptoBulk d + 1
  | .map entries => uptoBulkEntries entries + 1
  | .held _ => 1
def uptoBulkAll {H : Type} : List (DataW H) → Nat
  | [] => 0
  | d :: r => uptoBulk d + uptoBulkAll r
def uptoBulkEntries {H : Type} : List (Lit × DataW H) → Nat
  | [] => 0
  | x :: r => uptoBulkEntry x + uptoBulkEntries r
def uptoBulkEntry {H : Type} : Lit × DataW H → Nat
  | (.string bytes, d) => bytes.length + uptoBulk d + 1
  | (_, d) => uptoBulk d + 1
 end
def uptoSmall : (H : Type) → List (DataW H) → Bool := fun _ ds => decide (uptoBulkAll ds ≤ 1048576)
def OpenSpec.upto (s : _root_.Go.ChangeSpec) : _root_.Go.OpenSpec := { _root_.Go.OpenSpec.ofChange s with cond := some uptoSmall }

/-- 'postilionlaw20.StoreIDs', WHERE WHAT IT READS IS OF BULK AT MOST 1048576: true; the input reads as it did. -/
def storeIDsUptoRow : OpenClaim := { program := "ytadgbifmiooikaagreat", sum := "f633a6f4f12776abdfc157629c76e3ee847f90e34d91280536ca4c3376629139", func := "postilion/postilionlaw20.StoreIDs", spec := "storeIDs", unfollowed := true, recurses := true, apart := false, narrowed := true }
def StoreIDsUptoSaid : Prop := storeIDsUptoRow.holds Tryz.pinned (OpenSpec.upto storeIDsSpec)

/-- 'postilionlaw20.StoreCrash', WHERE WHAT IT READS IS OF BULK AT MOST 1048576: true; the input reads as it did. -/
def storeCrashUptoRow : OpenClaim := { program := "ytadgbifmiooikaagreat", sum := "f633a6f4f12776abdfc157629c76e3ee847f90e34d91280536ca4c3376629139", func := "postilion/postilionlaw20.StoreCrash", spec := "storeCrash", unfollowed := true, recurses := true, apart := false, narrowed := true }
def StoreCrashUptoSaid : Prop := storeCrashUptoRow.holds Tryz.pinned (OpenSpec.upto storeCrashSpec)

/-- 'postilionlaw20.StoreFull', WHERE WHAT IT READS IS OF BULK AT MOST 1048576: true; the input reads as it did. -/
def storeFullUptoRow : OpenClaim := { program := "ytadgbifmiooikaagreat", sum := "f633a6f4f12776abdfc157629c76e3ee847f90e34d91280536ca4c3376629139", func := "postilion/postilionlaw20.StoreFull", spec := "storeFull", unfollowed := true, recurses := true, apart := false, narrowed := true }
def StoreFullUptoSaid : Prop := storeFullUptoRow.holds Tryz.pinned (OpenSpec.upto storeFullSpec)

/-- 'postilionlaw20.StoreErrors', WHERE WHAT IT READS IS OF BULK AT MOST 1048576: true; the input reads as it did. -/
def storeErrorsUptoRow : OpenClaim := { program := "ytadgbifmiooikaagreat", sum := "f633a6f4f12776abdfc157629c76e3ee847f90e34d91280536ca4c3376629139", func := "postilion/postilionlaw20.StoreErrors", spec := "storeErrors", unfollowed := true, recurses := true, apart := false, narrowed := true }
def StoreErrorsUptoSaid : Prop := storeErrorsUptoRow.holds Tryz.pinned (OpenSpec.upto storeErrorsSpec)

/-- 'postilionlaw20.StorePlays', WHERE WHAT IT READS IS OF BULK AT MOST 1048576: true; the input reads as it did. -/
def storePlaysUptoRow : OpenClaim := { program := "ytadgbifmiooikaagreat", sum := "f633a6f4f12776abdfc157629c76e3ee847f90e34d91280536ca4c3376629139", func := "postilion/postilionlaw20.StorePlays", spec := "storePlays", unfollowed := true, recurses := true, apart := false, narrowed := true }
def StorePlaysUptoSaid : Prop := storePlaysUptoRow.holds Tryz.pinned (OpenSpec.upto storePlaysSpec)

end Rows
end Go.Proofs.YtadgbifmiooikaaGreat
