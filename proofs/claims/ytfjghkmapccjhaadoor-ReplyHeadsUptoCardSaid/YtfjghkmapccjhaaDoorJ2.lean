/- Strong tags: what these come to. -/
import Derived.Test.YtfjghkmapccjhaaDoorT
import Derived.Test.YtfjghkmapccjhaaDoorJ1
import Derived.Test.YtfjghkmapccjhaaDoorH2
namespace Go.Proofs.YtfjghkmapccjhaaDoorX
set_option linter.unusedVariables false
set_option linter.unusedSimpArgs false
open Go Go.RowKit Go.Proofs

theorem takeE_more {α : Type} {p : α → Prop} {xs : List α} {k : Nat} (h : ∀ x ∈ xs.take k, p x) (hk : k < xs.length) (hp : p xs[k]) : ∀ x ∈ xs.take (k + 1), p x := by
  intro x hx
  rw [List.take_add_one, List.getElem?_eq_getElem hk] at hx
  rcases List.mem_append.1 hx with hx | hx
  · exact h x hx
  · simp at hx
    subst hx
    exact hp
theorem get_getD {l : List UInt8} {k : Nat} (h : k < l.length) : l.getD k 0 = l[k] := by
  rw [List.getD_eq_getElem?_getD, List.getElem?_eq_getElem h]
  rfl
def tagC (c : UInt8) : Bool := decide (33 ≤ c.toNat ∧ c.toNat ≤ 126 ∧ c.toNat ≠ 34)
def midL (l : List UInt8) : List UInt8 := (l.drop 1).take (l.length - 2)
def endsQ (l : List UInt8) : Prop := 3 ≤ l.length ∧ l.length ≤ 12 ∧ (l.getD 0 0).toNat = 34 ∧ (l.getD (l.length - 1) 0).toNat = 34
instance (l : List UInt8) : Decidable (endsQ l) := by unfold endsQ; infer_instance
def strongB (l : List UInt8) : Bool := decide (endsQ l) && (midL l).all tagC
end Go.Proofs.YtfjghkmapccjhaaDoorX
