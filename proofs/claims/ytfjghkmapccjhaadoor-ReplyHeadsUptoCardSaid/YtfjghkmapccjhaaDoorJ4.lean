/- A body's size; whether a piece fits: what these come to. -/
import Derived.Test.YtfjghkmapccjhaaDoorT
import Derived.Test.YtfjghkmapccjhaaDoorJ3
namespace Go.Proofs.YtfjghkmapccjhaaDoorX
set_option linter.unusedVariables false
set_option linter.unusedSimpArgs false
open Go Go.RowKit Go.Proofs

def HSm (hs : List HRow) : Prop := (∀ r ∈ hs, r.1.size ≤ 9223372036854775807 ∧ r.2.size ≤ 9223372036854775807) ∧ hs.length ≤ 1000000
theorem HSm.names {hs : List HRow} (h : HSm hs) : ∀ r ∈ hs, r.1.size ≤ 9223372036854775807 := fun r hr => by have := (h.1 r hr).1; omega
theorem HSm.val {hs : List HRow} (h : HSm hs) (n : ByteArray) : (getH n hs).1.size ≤ 9223372036854775807 := by
  unfold getH
  cases hf : hs.find? (fun r => lowEq r.1 n) with
  | none => exact Nat.zero_le _
  | some r => exact (h.1 r (List.mem_of_find?_eq_some hf)).2
def clenS : ByteArray := ⟨#[99, 111, 110, 116, 101, 110, 116, 45, 108, 101, 110, 103, 116, 104]⟩
def cranS : ByteArray := ⟨#[99, 111, 110, 116, 101, 110, 116, 45, 114, 97, 110, 103, 101]⟩
def sizeR (hs : List HRow) (body : ByteArray) : Int × Bool := if (getH clenS hs).2 = false then ((body.size : Int), true) else ((numberR (getH clenS hs).1.toList).getD 0, (numberR (getH clenS hs).1.toList).isSome)
theorem pow_pos10 (n : Nat) : (0 : Int) < 10 ^ n := Int.pow_pos (by decide)
theorem fold_rng : ∀ (l : List UInt8) (x : Int), l.all isDigit = true → 0 ≤ x → 0 ≤ l.foldl digStep x ∧ l.foldl digStep x < (x + 1) * 10 ^ l.length
  | [], x, _, h => ⟨h, by simp; omega⟩
  | c :: r, x, ha, h => by
    rw [List.all_cons, Bool.and_eq_true] at ha
    have hc : 48 ≤ c.toNat ∧ c.toNat ≤ 57 := by have := ha.1; unfold isDigit at this; simpa using this
    have hs : digStep x c = 10 * x + ((c.toNat : Int) - 48) := rfl
    have ih := fold_rng r (digStep x c) ha.2 (by rw [hs]; omega)
    refine ⟨ih.1, Int.lt_of_lt_of_le ih.2 ?_⟩
    rw [List.length_cons, Int.pow_succ, Int.mul_comm (10 ^ r.length) 10, ← Int.mul_assoc]
    exact Int.mul_le_mul_of_nonneg_right (by rw [hs]; omega) (Int.le_of_lt (pow_pos10 _))
theorem number_rng (l : List UInt8) : 0 ≤ (numberR l).getD 0 ∧ (numberR l).getD 0 ≤ 999999 := by
  unfold numberR
  split
  · exact ⟨by decide, by decide⟩
  · rename_i hl
    split
    · rename_i ha
      have h := fold_rng l 0 ha (Int.le_refl _)
      have h6 : (10 : Int) ^ l.length ≤ 10 ^ 6 := by
        have : (10 : Nat) ^ l.length ≤ 10 ^ 6 := Nat.pow_le_pow_right (by decide) (by omega)
        exact_mod_cast this
      refine ⟨h.1, ?_⟩
      show l.foldl digStep 0 ≤ 999999
      have h2 := h.2
      have h7 : (10 : Int) ^ 6 = 1000000 := by decide
      rw [h7] at h6
      omega
    · exact ⟨by decide, by decide⟩
theorem span_rng (s : ByteArray) : (0 ≤ (spanR s).1 ∧ (spanR s).1 ≤ 999999) ∧ (0 ≤ (spanR s).2.1 ∧ (spanR s).2.1 ≤ 999999) ∧ (0 ≤ (spanR s).2.2.1 ∧ (spanR s).2.2.1 ≤ 999999) := by
  unfold spanR
  split
  · exact ⟨number_rng _, number_rng _, number_rng _⟩
  · exact ⟨⟨by decide, by decide⟩, ⟨by decide, by decide⟩, ⟨by decide, by decide⟩⟩
def FitOk (code : Int) (hs : List HRow) (body : ByteArray) (got : Int) (tag : ByteArray) : Prop :=
  code = 206 ∧ (tag.toList == ([] : List UInt8)) = false ∧ ((tagR hs).toList == tag.toList) = true ∧ (spanR (getH cranS hs).1).2.2.2 = true ∧ (sizeR hs body).2 = true ∧ (spanR (getH cranS hs).1).1 = got ∧ (spanR (getH cranS hs).1).2.1 = (spanR (getH cranS hs).1).2.2.1 - 1 ∧ (sizeR hs body).1 = (spanR (getH cranS hs).1).2.1 - (spanR (getH cranS hs).1).1 + 1
instance (code : Int) (hs : List HRow) (body : ByteArray) (got : Int) (tag : ByteArray) : Decidable (FitOk code hs body got tag) := by unfold FitOk; infer_instance
def fitsR (code : Int) (hs : List HRow) (body : ByteArray) (got : Int) (tag : ByteArray) : Int × Bool := if FitOk code hs body got tag then ((spanR (getH cranS hs).1).2.2.1, true) else (0, false)
theorem emptyL : (ByteArray.mk #[]).toList = [] := by rw [ByteArray.toList_eq]
end Go.Proofs.YtfjghkmapccjhaaDoorX
