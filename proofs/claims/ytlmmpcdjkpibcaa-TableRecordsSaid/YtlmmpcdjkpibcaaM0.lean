/- Plain functions: what the small functions of the packages mark and postilionkeep compute. No program in sight. -/
import Derived.Test.YtlmmpcdjkpibcaaX7
namespace Go.Proofs.YtlmmpcdjkpibcaaX
open Go

/-- Any number as one from 0 to n - 1 (0, if n is below 1). -/
def within (v n : Int) : Int := if n < 1 then 0 else v % n
theorem within_range (v n : Int) : 0 ≤ within v n ∧ (1 ≤ n → within v n < n) := by
  unfold within
  split
  · omega
  · exact ⟨Int.emod_nonneg _ (by omega), fun _ => Int.emod_lt_of_pos _ (by omega)⟩
theorem within_of_tmod {v n : Int} (h : ¬ n < 1) (h' : ¬ v.tmod n < 0) : v.tmod n = within v n := by
  unfold within
  rw [if_neg h]
  have h0 := Int.emod_nonneg v (show n ≠ 0 by omega)
  have h1 := Int.emod_lt_of_pos v (show 0 < n by omega)
  have h2 := Int.tmod_eq_emod (a := v) (b := n)
  split at h2 <;> omega
theorem within_of_tmod_neg {v n : Int} (h : ¬ n < 1) (h' : v.tmod n < 0) : v.tmod n + n = within v n := by
  unfold within
  rw [if_neg h]
  have h0 := Int.emod_nonneg v (show n ≠ 0 by omega)
  have h1 := Int.emod_lt_of_pos v (show 0 < n by omega)
  have h2 := Int.tmod_eq_emod (a := v) (b := n)
  split at h2 <;> omega
theorem tmod_bound (v n : Int) (h : ¬ n < 1) : -n < v.tmod n ∧ v.tmod n < n := by
  rw [Int.tmod_eq_emod]
  have := Int.emod_nonneg v (show n ≠ 0 by omega)
  have := Int.emod_lt_of_pos v (show 0 < n by omega)
  split <;> omega
def i64ok (n : Int) : Prop := -9223372036854775808 ≤ n ∧ n ≤ 9223372036854775807
/-- May a mark be? -/
def mayM (e s : Int) : Bool := decide (0 ≤ e) && (decide (e < 65536) && (decide (0 ≤ s) && decide (s < 16777216)))
def two (e : Int) : List UInt8 := [u8 (e / 2 ^ 8), u8 e]
def three (s : Int) : List UInt8 := [u8 (s / 2 ^ 16), u8 (s / 2 ^ 8), u8 s]
theorem two_length (e : Int) : (two e).length = 2 := rfl
theorem three_length (s : Int) : (three s).length = 3 := rfl
theorem beqB (a b : List UInt8) : (a == b) = decide (a = b) := by rw [Bool.eq_iff_iff]; simp
def sealB (e s p n : Int) (b : List UInt8) : List UInt8 :=
  two e ++ three s ++ [u8 p, u8 n, u8 b.length] ++ b ++ List.replicate (19 - b.length) 0 ++ three s ++ two e
def sealM (e s p n : Int) (b : List UInt8) : Bool := mayM e s && decide (0 ≤ p) && decide (p < n) && decide (n ≤ 255) && decide (b.length ≤ 19)
/-- Lists of bytes, held against each other from the left. -/
theorem take_next {a b : List UInt8} {k : Nat} (h : a.take k = b.take k) (ha : k < a.length) (hb : k < b.length) (he : bat a k = bat b k) : a.take (k + 1) = b.take (k + 1) := by
  rw [List.take_add_one, List.take_add_one, h]
  congr 1
  unfold bat at he
  simp only [Int.toNat_natCast, List.getD_eq_getElem?_getD, List.getElem?_eq_getElem ha, List.getElem?_eq_getElem hb, Option.getD_some] at he ⊢
  have : a[k] = b[k] := UInt8.toNat_inj.1 (by omega)
  rw [this]
theorem ne_of_bat {a b : List UInt8} {k : Nat} (he : bat a k ≠ bat b k) : a ≠ b := fun e => he (by rw [e])
theorem eq_of_take {a b : List UInt8} {k : Nat} (h : a.take k = b.take k) (hk : a.length ≤ k) (hl : a.length = b.length) : a = b := by
  rwa [List.take_of_length_le hk, List.take_of_length_le (by omega)] at h
end Go.Proofs.YtlmmpcdjkpibcaaX
