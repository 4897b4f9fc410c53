/- A clone of a disk; the document's example: what these come to. -/
import Derived.Test.YthocicjjighbnaaT
import Derived.Test.YthocicjjighbnaaD4
namespace Go.Proofs.YthocicjjighbnaaX
set_option linter.unusedVariables false
set_option linter.unusedSimpArgs false
open Go Go.RowKit Go.Proofs

theorem Grow.src {w0 w : World} {I : Imm} {L : Own} {e : TypeId} {size n : Nat} {v : Value} {xs : List Value} {Lv : Own} (hg : Grow e size v n xs Lv) (hst : St w0 w I L) (hsub : ∀ p ∈ Lv, p ∈ L) : ∃ A c, v = .slice A n c ∧ (A = none → n = 0) ∧ ∀ j u, xs[j]? = some u → ∃ a, A = some a ∧ w.cell? (a.add j) = some u := by
  have hc := fun j u (hj : xs[j]? = some u) => hg.cell hst hsub hj
  obtain ⟨h1, h0, ⟨rfl, rfl, rfl⟩ | ⟨g, cap, cur, rfl, rfl, h3, h4, h5, h6⟩⟩ := hg
  · refine ⟨none, 0, rfl, fun _ => rfl, fun j u hj => ?_⟩
    have : xs = [] := List.eq_nil_of_length_eq_zero (by simpa using h1)
    subst this
    cases hj
  · exact ⟨_, cap, rfl, fun h => (by cases h), fun j u hj => ⟨_, rfl, hc j u hj⟩⟩
theorem Grow.nilq {e : TypeId} {size n : Nat} {A : Option Addr} {c : Nat} {xs : List Value} {Lv : Own} (hg : Grow e size (.slice A n c) n xs Lv) (h : A = none) : n = 0 ∧ xs = [] := by
  subst h
  obtain ⟨h1, h0, ⟨e1, rfl, rfl⟩ | ⟨g, cap, cur, e1, _⟩⟩ := hg
  · exact ⟨rfl, List.eq_nil_of_length_eq_zero (by simpa using h1)⟩
  · cases e1
theorem perm_two {α : Type} (x : α) (A B C : List α) : (x :: (A ++ (B ++ C))).Perm (x :: (B ++ (A ++ C))) := (List.perm_append_comm_assoc A B C).cons x
end Go.Proofs.YthocicjjighbnaaX
