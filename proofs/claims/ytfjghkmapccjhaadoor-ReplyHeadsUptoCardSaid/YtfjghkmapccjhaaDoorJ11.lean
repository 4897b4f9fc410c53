/- Any three numbers that may be a span are told again; others are none. -/
import Derived.Test.YtfjghkmapccjhaaDoorT
import Derived.Test.YtfjghkmapccjhaaDoorJ10
import Derived.Test.YtfjghkmapccjhaaDoorXT
namespace Go.Proofs.YtfjghkmapccjhaaDoorX
set_option linter.unusedVariables false
set_option linter.unusedSimpArgs false
open Go Go.RowKit Go.Proofs

theorem dec_digit (k : Nat) (h : k < 10) : (UInt8.ofNat (48 + k)).toNat = 48 + k := by
  rw [UInt8.toNat_ofNat']
  omega
theorem dd_all : ∀ (n : Nat), (Lib.decDigits n).all isDigit = true
  | n => by
    unfold Lib.decDigits
    by_cases h : n < 10
    · rw [dif_pos h]
      simp only [List.all_cons, List.all_nil, Bool.and_true]
      unfold isDigit
      rw [dec_digit n h]
      simp
      omega
    · rw [dif_neg h, List.all_append, dd_all (n / 10)]
      simp only [List.all_cons, List.all_nil, Bool.and_true, Bool.true_and]
      unfold isDigit
      rw [dec_digit _ (Nat.mod_lt _ (by decide))]
      simp
      omega
termination_by n => n
theorem dd_val : ∀ (n : Nat), (Lib.decDigits n).foldl digStep 0 = (n : Int)
  | n => by
    unfold Lib.decDigits
    by_cases h : n < 10
    · rw [dif_pos h]
      show digStep 0 _ = _
      unfold digStep
      rw [dec_digit n h]
      omega
    · rw [dif_neg h, List.foldl_append, dd_val (n / 10)]
      show digStep _ _ = _
      unfold digStep
      rw [dec_digit _ (Nat.mod_lt _ (by decide))]
      omega
termination_by n => n
theorem dd_pos (n : Nat) : 1 ≤ (Lib.decDigits n).length := by
  unfold Lib.decDigits
  split <;> simp
theorem dd_le : ∀ (f n : Nat), n < 10 ^ (f + 1) → (Lib.decDigits n).length ≤ f + 1
  | 0, n, h => by
    unfold Lib.decDigits
    rw [dif_pos (by simpa using h)]
    simp
  | f + 1, n, h => by
    unfold Lib.decDigits
    split
    · simp
    · have := dd_le f (n / 10) (by rw [Nat.pow_succ] at h; omega)
      simp; omega
theorem dd_ge : ∀ (f n : Nat), 10 ^ f ≤ n → f + 1 ≤ (Lib.decDigits n).length
  | 0, n, h => dd_pos n
  | f + 1, n, h => by
    have h10 : 10 ≤ 10 ^ (f + 1) := by rw [Nat.pow_succ]; have := (Nat.pow_pos (by decide) : 0 < 10 ^ f); omega
    unfold Lib.decDigits
    rw [dif_neg (by omega)]
    have := dd_ge f (n / 10) (by rw [Nat.pow_succ] at h; omega)
    simp; omega
theorem number_dd (n : Nat) : numberR (Lib.decDigits n) = if n < 1000000 then some (n : Int) else none := by
  unfold numberR
  have h1 := dd_pos n
  by_cases h : n < 1000000
  · have h2 := dd_le 5 n (by omega)
    rw [if_neg (by omega), if_pos (dd_all n), dd_val, if_pos h]
  · have h2 := dd_ge 6 n (by omega)
    rw [if_pos (by omega), if_neg h]
theorem dd_no (n : Nat) (c : UInt8) (hc : isDigit c = false) : c ∉ Lib.decDigits n := by
  intro h
  have := List.all_eq_true.1 (dd_all n) c h
  rw [hc] at this
  cases this
def spanT (a b c : Int) : ByteArray := bytesS ++ strOf (Lib.decDigits a.toNat) ++ ⟨#[45]⟩ ++ strOf (Lib.decDigits b.toNat) ++ ⟨#[47]⟩ ++ strOf (Lib.decDigits c.toNat)
theorem toList_append' (a b : ByteArray) : (a ++ b).toList = a.toList ++ b.toList := by
  rw [ByteArray.toList_eq, ByteArray.toList_eq, ByteArray.toList_eq, ByteArray.data_append, Array.toList_append]
theorem spanT_list (a b c : Int) : (spanT a b c).toList = [98, 121, 116, 101, 115, 32] ++ (Lib.decDigits a.toNat ++ 45 :: (Lib.decDigits b.toNat ++ 47 :: Lib.decDigits c.toNat)) := by
  unfold spanT
  rw [toList_append', toList_append', toList_append', toList_append', toList_append', strOf_toList, strOf_toList, strOf_toList]
  rw [show (ByteArray.mk #[45]).toList = [45] from oneS_list 45, show (ByteArray.mk #[47]).toList = [47] from oneS_list 47, show bytesS.toList = [98, 121, 116, 101, 115, 32] by rw [ByteArray.toList_eq]; rfl]
  simp
theorem spanT_law (a b c : Int) (ha : 0 ≤ a) (hb : 0 ≤ b) (hc : 0 ≤ c) : spanR (spanT a b c) = if a ≤ b ∧ b < c ∧ c < 1000000 then (a, b, c, true) else Z3 := by
  rw [← span_law]
  have hl := spanT_list a b c
  have hp : preS (spanT a b c) bytesS = true := by
    unfold preS
    have hz := size_toList (spanT a b c)
    rw [hl, List.length_append] at hz
    rw [extract_list, hl]
    have h6 : bytesS.size = 6 := rfl
    rw [h6, decide_eq_true (show ((6 : Nat) : Int) ≤ ((spanT a b c).size : Int) by simp at hz; omega)]
    rw [List.drop_zero, Nat.sub_zero, show bytesS.toList = [98, 121, 116, 101, 115, 32] by rw [ByteArray.toList_eq]; rfl]
    rfl
  unfold refSpanR
  have hd : ∀ X : List UInt8, List.drop 6 ([98, 121, 116, 101, 115, 32] ++ X) = X := fun _ => rfl
  rw [if_pos hp, hl, hd]
  dsimp only
  rw [until1_at (dd_no _ 45 (by decide))]
  dsimp only
  rw [if_neg (by simp), List.drop_succ_cons, List.drop_zero, until1_at (dd_no _ 47 (by decide))]
  dsimp only
  rw [if_neg (by simp), List.drop_succ_cons, List.drop_zero, number_dd, number_dd, number_dd]
  unfold span3
  by_cases h : a ≤ b ∧ b < c ∧ c < 1000000
  · rw [if_pos h, if_pos (show a.toNat < 1000000 by omega), if_pos (show b.toNat < 1000000 by omega), if_pos (show c.toNat < 1000000 by omega)]
    simp only [Option.isSome_some, Option.getD_some, true_and]
    rw [if_pos (by omega), Int.toNat_of_nonneg ha, Int.toNat_of_nonneg hb, Int.toNat_of_nonneg hc]
  · rw [if_neg h, if_neg]
    rintro ⟨h1, h2, h3, h4, h5⟩
    have g : ∀ x : Int, 0 ≤ x → (if x.toNat < 1000000 then some ((x.toNat : Nat) : Int) else none).isSome = true → x < 1000000 ∧ (if x.toNat < 1000000 then some ((x.toNat : Nat) : Int) else none).getD 0 = x := fun x hx hs => by
      by_cases hh : x.toNat < 1000000
      · rw [if_pos hh]; exact ⟨by omega, by simp; omega⟩
      · rw [if_neg hh] at hs; cases hs
    obtain ⟨a1, a2⟩ := g a ha h1
    obtain ⟨b1, b2⟩ := g b hb h2
    obtain ⟨c1, c2⟩ := g c hc h3
    rw [a2, b2] at h4
    rw [b2, c2] at h5
    exact h ⟨h4, h5, c1⟩
end Go.Proofs.YtfjghkmapccjhaaDoorX
