/- A few more plain facts. Own lemmas, no program in sight. -/
import Derived.Test.YthblbockghgchaaQ5
namespace Go.Proofs.YthblbockghgchaaX
set_option linter.unusedVariables false
set_option linter.unusedSimpArgs false
open Go Go.RowKit

theorem safe_facts {r : Nat} (h : safeR r = true) : 33 ≤ r ∧ r ≤ 126 ∧ r ≠ 34 ∧ r ≠ 35 ∧ r ≠ 60 ∧ r ≠ 62 ∧ r ≠ 63 := by
  have hs := safe_small h
  rw [safe_fin r (by omega)] at h
  simp at h
  omega
def fixR (c : Int) : Nat := if c < 0 ∨ c > 1114111 ∨ (55296 ≤ c ∧ c < 57344) ∨ c = 37 then 120 else c.toNat
theorem fix_bad {c : Int} (h : c < 0 ∨ c > 1114111 ∨ (55296 ≤ c ∧ c < 57344) ∨ c = 37) : (120 : Int) = ((fixR c : Nat) : Int) := by unfold fixR; rw [if_pos h]; rfl
theorem fix_ok {c : Int} (h : ¬ (c < 0 ∨ c > 1114111 ∨ (55296 ≤ c ∧ c < 57344) ∨ c = 37)) : c = ((fixR c : Nat) : Int) := by unfold fixR; rw [if_neg h]; omega
theorem fix_le (c : Int) : fixR c ≤ 1114111 ∧ fixR c ≠ 37 ∧ Utf8.valid (fixR c : Int) = true := by
  unfold fixR
  split
  · exact ⟨by decide, by decide, by decide⟩
  · refine ⟨by omega, by omega, ?_⟩
    unfold Utf8.valid
    simp
    omega
def rsK (xs : List Int) (k : Nat) : List Nat := ((xs.take k).take 40).map fixR
theorem rsK_next {xs : List Int} {k : Nat} (hk : k < xs.length) (h : k < 40) : txt (rsK xs (k + 1)) = txt (rsK xs k) ++ encL ((fixR (iat xs (k : Int)) : Nat) : Int) := by
  have e : iat xs (k : Int) = xs[k] := by unfold iat; simp [hk]
  unfold rsK txt
  rw [List.take_take, List.take_take, Nat.min_eq_right (by omega), Nat.min_eq_right (by omega), List.take_add_one, List.getElem?_eq_getElem hk, Option.toList_some, List.map_append, List.flatMap_append, e]
  simp
theorem rsK_stay {xs : List Int} {k : Nat} (h : ¬ k < 40) : rsK xs (k + 1) = rsK xs k := by
  unfold rsK
  rw [List.take_take, List.take_take, Nat.min_eq_left (by omega), Nat.min_eq_left (by omega)]
theorem rsK_len (xs : List Int) (k : Nat) : (txt (rsK xs k)).length ≤ 160 := by
  have h := flat_len (f := fun (r : Nat) => encL (r : Int)) (n := 4) (rsK xs k) (fun r _ => (encL_len (r : Int)).2)
  have h2 : (rsK xs k).length ≤ 40 := by unfold rsK; rw [List.length_map, List.length_take]; omega
  unfold txt
  omega
theorem rsK_ok (xs : List Int) (k : Nat) : (∀ r ∈ rsK xs k, Utf8.valid (r : Int) = true) ∧ ∀ r ∈ rsK xs k, r ≠ 37 := by
  unfold rsK
  constructor
  · intro r hr
    obtain ⟨c, _, rfl⟩ := List.mem_map.1 hr
    exact (fix_le c).2.2
  · intro r hr
    obtain ⟨c, _, rfl⟩ := List.mem_map.1 hr
    exact (fix_le c).2.1
theorem wrap_32 {n : Nat} (h : n ≤ 1114111) : IntKind.i32.wrap (n : Int) = (n : Int) := by
  rw [IntKind.wrap_i32]
  omega
theorem pctS_len {small : Bool} (bs : List UInt8) : (bs.flatMap (pctS small)).length ≤ 3 * bs.length := flat_len bs fun _ _ => by simp [pctS]
theorem bytes_laws {small : Bool} (b : List UInt8) : decB (b.flatMap (pctS small)) = some b ∧ decB (b.flatMap (pctS small) ++ [37]) = none ∧ decB (b.flatMap (pctS small) ++ [37, 52]) = none ∧
    decB ([120] ++ b.flatMap (pctS small) ++ [121]) = some ([120] ++ b ++ [121]) ∧ encB (b.flatMap (pctS small)) = b.flatMap (pctS small) := by
  refine ⟨?_, ?_, ?_, ?_, encB_self safe_bytes⟩
  · have := dec_bytes (small := small) b []
    rw [List.append_nil] at this
    rw [this]
    show some (b ++ []) = _
    rw [List.append_nil]
  · rw [dec_bytes]; rfl
  · rw [dec_bytes]; rfl
  · show decB (120 :: (b.flatMap (pctS small) ++ [121])) = _
    rw [decB_plain (by decide), dec_bytes, show decB [121] = some [121] from by rw [decB_plain (by decide)]; rfl]
    rfl
theorem beq_self_list (a : List UInt8) : (a == a) = true := by simp
end Go.Proofs.YthblbockghgchaaX
