/- Headers, as slices of them read (out of f16/h1.py, without its functions). -/
import Derived.Test.YtlmmpcdjkpibcaaT
import Derived.Test.YtlmmpcdjkpibcaaM1
import Derived.Test.YtlmmpcdjkpibcaaXC
namespace Go.Proofs.YtlmmpcdjkpibcaaX
set_option linter.unusedVariables false
set_option linter.unusedSimpArgs false
open Go Go.RowKit Go.Proofs

/-- Headers, as a slice of them reads. -/
abbrev HRow := ByteArray × ByteArray
def hrow (r : HRow) : List Value := [.string r.1, .string r.2]
theorem hrow_len (r : HRow) : (hrow r).length = 2 := rfl
def RdH (I : Imm) (v : Value) (hs : List HRow) : Prop := RdL I 2 v hs.length (hs.flatMap hrow)
theorem hrow_at {rows : List HRow} {k : Nat} {r : HRow} (hr : rows[k]? = some r) : ∀ (j : Nat) (u : Value), (hrow r)[j]? = some u → (rows.flatMap hrow)[(k : Int).toNat * 2 + j]? = some u := by
  intro j u hj
  have hj5 : j < 2 := (List.getElem?_eq_some_iff.1 hj).1
  rw [Int.toNat_natCast, getElem?_flat hrow_len rows k j hj5, hr]
  exact hj
def lowEq (a b : ByteArray) : Bool := lower a.toList == lower b.toList
def getH (n : ByteArray) (hs : List HRow) : ByteArray × Bool := match hs.find? (fun r => lowEq r.1 n) with
  | some r => (r.2, true)
  | none => (⟨#[]⟩, false)
theorem find_take {α : Type} {p : α → Bool} {xs : List α} {k : Nat} (h : ∀ x ∈ xs.take k, p x = false) (hk : k < xs.length) (hp : p xs[k] = true) : xs.find? p = some xs[k] := by
  have e : xs.find? p = (xs.take k ++ xs.drop k).find? p := by rw [List.take_append_drop]
  rw [e, List.find?_append, List.find?_eq_none.2 (fun x hx => by rw [h x hx]; decide)]
  rw [List.drop_eq_getElem_cons hk, List.find?_cons, hp]
  rfl
theorem find_no {α : Type} {p : α → Bool} {xs : List α} {k : Nat} (h : ∀ x ∈ xs.take k, p x = false) (hk : xs.length ≤ k) : xs.find? p = none := by
  rw [List.take_of_length_le hk] at h
  exact List.find?_eq_none.2 (fun x hx => by rw [h x hx]; decide)
theorem take_more {α : Type} {p : α → Bool} {xs : List α} {k : Nat} (h : ∀ x ∈ xs.take k, p x = false) (hk : k < xs.length) (hp : p xs[k] = false) : ∀ x ∈ xs.take (k + 1), p x = false := by
  intro x hx
  rw [List.take_add_one, List.getElem?_eq_getElem hk] at hx
  rcases List.mem_append.1 hx with h1 | h1
  · exact h x h1
  · have : x = xs[k] := by simpa using h1
    rw [this]; exact hp
end Go.Proofs.YtlmmpcdjkpibcaaX
