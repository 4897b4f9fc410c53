/- Tags, spans: what these come to. -/
import Derived.Test.YtfjghkmapccjhaaDoorT
import Derived.Test.YtfjghkmapccjhaaDoorJ2
namespace Go.Proofs.YtfjghkmapccjhaaDoorX
set_option linter.unusedVariables false
set_option linter.unusedSimpArgs false
open Go Go.RowKit Go.Proofs

def etagS : ByteArray := ⟨#[101, 116, 97, 103]⟩
def bytesS : ByteArray := ⟨#[98, 121, 116, 101, 115, 32]⟩
def tagR (hs : List HRow) : ByteArray := if strongB (getH etagS hs).1.toList = true then (getH etagS hs).1 else ⟨#[]⟩
def restR (s : ByteArray) : ByteArray := if preS s bytesS = true then s.extract bytesS.size s.size else s
theorem restR_size (s : ByteArray) : (restR s).size ≤ s.size := by
  unfold restR
  split
  · rw [← size_toList, ← size_toList, extract_list, List.length_take, List.length_drop]; omega
  · exact Nat.le_refl _
/-- A span's parts, as they are read. -/
structure SpanP where
  a : Bool
  b : Bool
  c : Bool
  d : Option Int
  e : Option Int
  f : Option Int
def spanP (s : ByteArray) : SpanP :=
  let x := cutL (restR s).toList 47
  let y := cutL x.1 45
  ⟨preS s bytesS, x.2.2, y.2.2, numberR y.1, numberR y.2.1, numberR x.2.1⟩
def SpanOk (p : SpanP) : Prop := p.a = true ∧ p.b = true ∧ p.c = true ∧ p.d.isSome = true ∧ p.e.isSome = true ∧ p.f.isSome = true ∧ p.d.getD 0 ≤ p.e.getD 0 ∧ p.e.getD 0 < p.f.getD 0
instance (p : SpanP) : Decidable (SpanOk p) := by unfold SpanOk; infer_instance
def spanR (s : ByteArray) : Int × Int × Int × Bool := if SpanOk (spanP s) then ((spanP s).d.getD 0, (spanP s).e.getD 0, (spanP s).f.getD 0, true) else (0, 0, 0, false)
theorem cutL_len (l : List UInt8) (c : UInt8) : (cutL l c).1.length ≤ l.length ∧ (cutL l c).2.1.length ≤ l.length := by
  unfold cutL
  split
  · exact ⟨by rw [List.length_take]; omega, by rw [List.length_drop]; omega⟩
  · exact ⟨Nat.le_refl _, Nat.zero_le _⟩
theorem strOfZ (l : List UInt8) : (strOf l).size = l.length := by rw [← size_toList, strOf_toList]
end Go.Proofs.YtfjghkmapccjhaaDoorX
