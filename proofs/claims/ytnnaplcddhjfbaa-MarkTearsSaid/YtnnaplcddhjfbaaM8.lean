/- Plain: a sector with one byte turned at either end; sectors of unlike marks. No program in sight. -/
import Derived.Test.YtnnaplcddhjfbaaM6
import Derived.Test.YtnnaplcddhjfbaaXA
namespace Go.Proofs.YtnnaplcddhjfbaaX
set_option linter.unusedVariables false
open Go
attribute [local simp] two_length three_length

def endsL : List Int := [0, 1, 2, 3, 4, 27, 28, 29, 30, 31]
theorem ends_ok {i : Int} (h : 0 ≤ i ∧ i < 10) : (0 ≤ iat endsL i ∧ iat endsL i < 5) ∨ (27 ≤ iat endsL i ∧ iat endsL i < 32) := by
  have : i = 0 ∨ i = 1 ∨ i = 2 ∨ i = 3 ∨ i = 4 ∨ i = 5 ∨ i = 6 ∨ i = 7 ∨ i = 8 ∨ i = 9 := by omega
  rcases this with rfl | rfl | rfl | rfl | rfl | rfl | rfl | rfl | rfl | rfl <;> decide
theorem xor_eq_self {x c : UInt8} (h : x ^^^ c = x) : c = 0 := by
  have h1 : x ^^^ (x ^^^ c) = c := by rw [← UInt8.xor_assoc, UInt8.xor_self, UInt8.zero_xor]
  rw [h, UInt8.xor_self] at h1
  exact h1.symm
theorem set_getD_self {s : List UInt8} {k : Nat} (h : k < s.length) : s.set k (s.getD k 0) = s := by
  simp [List.getD_eq_getElem?_getD, List.getElem?_eq_getElem h]
theorem turned {s : List UInt8} (h : openOk s = true) {k : Nat} (hk : k < 5 ∨ (27 ≤ k ∧ k < 32)) (c : UInt8) : openOk (s.set k (s.getD k 0 ^^^ c)) = decide (c = 0) := by
  have hl := (openOk_parts h).1
  by_cases hc : c = 0
  · subst hc
    rw [UInt8.xor_zero, set_getD_self (by omega), h]
    rfl
  · rw [decide_eq_false hc, Bool.eq_false_iff]
    intro ho
    obtain ⟨a, b, ha, hb, h1, h2⟩ := openOk_ends h
    obtain ⟨a', b', ha', hb', h3, h4⟩ := openOk_ends ho
    have hz : (s.set k (s.getD k 0 ^^^ c))[k]? = some (s.getD k 0 ^^^ c) := by rw [List.getElem?_set_self (by omega)]
    have hs : s[k]? = some (s.getD k 0) := by simp [List.getD_eq_getElem?_getD, List.getElem?_eq_getElem (show k < s.length by omega)]
    have key : (s.set k (s.getD k 0 ^^^ c))[k]? = s[k]? := by
      rcases hk with hk | hk
      · rw [List.drop_set_of_lt (by omega), h2] at h4
        obtain ⟨e1, e2⟩ := List.append_inj h4 (by rw [hb, hb'])
        have h5 : (s.set k (s.getD k 0 ^^^ c)).take 5 = s.take 5 := by rw [h3, h1, e1, e2]
        have h6 := congrArg (·[k]?) h5
        simpa only [List.getElem?_take_of_lt hk] using h6
      · rw [List.take_set_of_le (by omega), h1] at h3
        obtain ⟨e1, e2⟩ := List.append_inj h3 (by rw [ha, ha'])
        have h5 : (s.set k (s.getD k 0 ^^^ c)).drop 27 = s.drop 27 := by rw [h4, h2, e1, e2]
        have h6 := congrArg (·[k - 27]?) h5
        simpa only [List.getElem?_drop, show 27 + (k - 27) = k by omega] using h6
    rw [hz, hs] at key
    exact hc (xor_eq_self (Option.some.inj key))
theorem sealB_4 (e q p n : Int) (b : List UInt8) : (sealB e q p n b)[4]? = some (u8 q) := by
  have h : ((sealB e q p n b).take 5)[4]? = (two e ++ three q)[4]? := by rw [sealB_head]
  rw [List.getElem?_take_of_lt (by decide)] at h
  rw [h]
  rfl
theorem sealB_29 {e q p n : Int} {b : List UInt8} (hb : b.length ≤ 19) : (sealB e q p n b)[29]? = some (u8 q) := by
  have h : ((sealB e q p n b).drop 27)[2]? = (three q ++ two e)[2]? := by rw [sealB_tail hb]
  rw [List.getElem?_drop] at h
  rw [show 29 = 27 + 2 from rfl, h]
  rfl
theorem seals_unlike {e q q' p n e' p' n' : Int} {b b' : List UInt8} (hb : b.length ≤ 19) (hb' : b'.length ≤ 19) (h : u8 q ≠ u8 q') (k : Nat) (c : UInt8) : (sealB e q p n b).set k c ≠ sealB e' q' p' n' b' := by
  intro he
  by_cases hk : k = 4
  · have h1 : ((sealB e q p n b).set k c)[29]? = (sealB e' q' p' n' b')[29]? := by rw [he]
    rw [List.getElem?_set_ne (by omega), sealB_29 hb, sealB_29 hb'] at h1
    exact h (Option.some.inj h1)
  · have h1 : ((sealB e q p n b).set k c)[4]? = (sealB e' q' p' n' b')[4]? := by rw [he]
    rw [List.getElem?_set_ne (by omega), sealB_4, sealB_4] at h1
    exact h (Option.some.inj h1)
theorem u8_next {q : Int} (h : 0 ≤ q ∧ q < 16777216) : u8 q ≠ u8 (bitop .xor .i64 q 1) ∧ 0 ≤ bitop .xor .i64 q 1 ∧ bitop .xor .i64 q 1 < 16777216 := by
  rw [xor1 (by omega)]
  refine ⟨fun he => ?_, by split <;> omega, by split <;> omega⟩
  have h1 := congrArg (fun c : UInt8 => (c.toNat : Int)) he
  simp only [u8_toNat] at h1
  split at h1 <;> omega
theorem turned_err {s : List UInt8} (h : openOk s = true) {k : Nat} (hk : k < 5 ∨ (27 ≤ k ∧ k < 32)) (c : UInt8) : (decide ((openR (s.set k (s.getD k 0 ^^^ c))).err = 0) == decide ((c.toNat : Int) = 0)) = true := by
  rw [openR_err, turned h hk]
  by_cases hc : c = 0
  · subst hc; decide
  · have : ¬ (c.toNat : Int) = 0 := fun e => hc (UInt8.toNat_inj.1 (by show c.toNat = 0; omega))
    rw [decide_eq_false hc, decide_eq_false this]
    decide
end Go.Proofs.YtnnaplcddhjfbaaX
