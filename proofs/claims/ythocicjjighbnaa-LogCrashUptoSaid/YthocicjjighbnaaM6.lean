/- Plain: what a sector that may be opened has at its ends; sectors halved, torn, turned. No program in sight. -/
import Derived.Test.YthocicjjighbnaaM2
namespace Go.Proofs.YthocicjjighbnaaX
set_option linter.unusedVariables false
open Go
attribute [local simp] two_length three_length

theorem openOk_parts {z : List UInt8} (h : openOk z = true) : z.length = 32 ∧ bat z 7 ≤ 19 ∧ sealM (epochOf z) (seqOf z) (bat z 5) (bat z 6) (bodyOf z) = true ∧ sealB (epochOf z) (seqOf z) (bat z 5) (bat z 6) (bodyOf z) = z := by
  unfold openOk at h
  simpa [and_assoc] using h
theorem sealM_parts {e s p n : Int} {b : List UInt8} (h : sealM e s p n b = true) : (0 ≤ e ∧ e < 65536) ∧ (0 ≤ s ∧ s < 16777216) ∧ 0 ≤ p ∧ p < n ∧ n ≤ 255 ∧ b.length ≤ 19 := by
  unfold sealM mayM at h
  simpa [and_assoc] using h
/-- The five bytes ahead, and those behind. -/
theorem sealB_head (e s p n : Int) (b : List UInt8) : (sealB e s p n b).take 5 = two e ++ three s := by
  simp [sealB, two, three]
theorem sealB_tail {e s p n : Int} {b : List UInt8} (h : b.length ≤ 19) : (sealB e s p n b).drop 27 = three s ++ two e := by
  have e1 : sealB e s p n b = (two e ++ three s ++ [u8 p, u8 n, u8 b.length] ++ b ++ List.replicate (19 - b.length) 0) ++ (three s ++ two e) := by simp [sealB]
  rw [e1, List.drop_append_of_le_length (by simp [two, three]; omega), List.drop_eq_nil_of_le (by simp [two, three]; omega)]
  rfl
theorem two_inj {e f : Int} (he : 0 ≤ e ∧ e < 65536) (hf : 0 ≤ f ∧ f < 65536) (h : two e = two f) : e = f := by
  unfold two at h
  simp only [List.cons.injEq, and_true] at h
  have h1 := congrArg (fun c : UInt8 => (c.toNat : Int)) h.1
  have h2 := congrArg (fun c : UInt8 => (c.toNat : Int)) h.2
  simp only [u8_toNat] at h1 h2
  omega
theorem three_inj {e f : Int} (he : 0 ≤ e ∧ e < 16777216) (hf : 0 ≤ f ∧ f < 16777216) (h : three e = three f) : e = f := by
  unfold three at h
  simp only [List.cons.injEq, and_true] at h
  have h1 := congrArg (fun c : UInt8 => (c.toNat : Int)) h.1
  have h2 := congrArg (fun c : UInt8 => (c.toNat : Int)) h.2.1
  have h3 := congrArg (fun c : UInt8 => (c.toNat : Int)) h.2.2
  simp only [u8_toNat] at h1 h2 h3
  omega
/-- What a sector that opens has ahead stands behind, the other way round. -/
theorem openOk_ends {z : List UInt8} (h : openOk z = true) : ∃ a b : List UInt8, a.length = 2 ∧ b.length = 3 ∧ z.take 5 = a ++ b ∧ z.drop 27 = b ++ a := by
  obtain ⟨h1, h2, h3, h4⟩ := openOk_parts h
  obtain ⟨_, _, _, _, _, hb⟩ := sealM_parts h3
  refine ⟨two (epochOf z), three (seqOf z), rfl, rfl, ?_, ?_⟩
  · rw [← sealB_head _ _ (bat z 5) (bat z 6) (bodyOf z), h4]
  · rw [← sealB_tail (p := bat z 5) (n := bat z 6) hb, h4]
theorem sealM_of {e s p n : Int} {b : List UInt8} (he : 0 ≤ e ∧ e < 65536) (hs : 0 ≤ s ∧ s < 16777216) (hp : 0 ≤ p ∧ p < n ∧ n ≤ 255) (hb : b.length ≤ 19) : sealM e s p n b = true := by
  unfold sealM mayM
  simp only [Bool.and_eq_true, decide_eq_true_eq]
  omega
theorem halves_not {e s p n e' s' p' n' : Int} {b b' : List UInt8} (h : sealM e s p n b = true) (h' : sealM e' s' p' n' b' = true) (hne : ¬ (e = e' ∧ s = s')) (k : Nat) (hk : 5 ≤ k ∧ k ≤ 27) : openOk ((sealB e s p n b).take k ++ (sealB e' s' p' n' b').drop k) = false := by
  rw [Bool.eq_false_iff]
  intro ho
  obtain ⟨he, hs, _, _, _, hb⟩ := sealM_parts h
  obtain ⟨he', hs', _, _, _, hb'⟩ := sealM_parts h'
  obtain ⟨x, y, hx, hy, h1, h2⟩ := openOk_ends ho
  have hl := sealB_length (e := e) (s := s) (p := p) (n := n) hb
  rw [List.take_append_of_le_length (by rw [List.length_take]; omega), List.take_take, Nat.min_eq_left hk.1, sealB_head] at h1
  have hlt : ((sealB e s p n b).take k).length = k := by rw [List.length_take]; omega
  rw [List.drop_append, hlt, List.drop_eq_nil_of_le (by omega), List.drop_drop, show k + (27 - k) = 27 by omega, sealB_tail hb', List.nil_append] at h2
  have e1 := List.append_inj h1 (by simp [hx])
  have e2 := List.append_inj h2 (by simp [hy])
  exact hne ⟨two_inj he he' (by rw [e1.1, e2.2]), three_inj hs hs' (by rw [e1.2, e2.1])⟩
theorem zeros_not {e s p n : Int} {b : List UInt8} (h : sealM e s p n b = true) (hne : e ≠ 0 ∨ s ≠ 0) (k : Nat) (hk : 5 ≤ k ∧ k ≤ 27) : openOk ((sealB e s p n b).take k ++ List.replicate (32 - k) 0) = false := by
  rw [Bool.eq_false_iff]
  intro ho
  obtain ⟨he, hs, _, _, _, hb⟩ := sealM_parts h
  obtain ⟨x, y, hx, hy, h1, h2⟩ := openOk_ends ho
  have hl := sealB_length (e := e) (s := s) (p := p) (n := n) hb
  rw [List.take_append_of_le_length (by rw [List.length_take]; omega), List.take_take, Nat.min_eq_left hk.1, sealB_head] at h1
  have hlt : ((sealB e s p n b).take k).length = k := by rw [List.length_take]; omega
  rw [List.drop_append, hlt, List.drop_eq_nil_of_le (by omega), List.nil_append, List.drop_replicate, show 32 - k - (27 - k) = 5 by omega] at h2
  have e1 := List.append_inj h1 (by simp [hx])
  have e2 := List.append_inj (s₁ := List.replicate 3 (0 : UInt8)) (t₁ := List.replicate 2 0) (s₂ := y) (t₂ := x) h2 (by simp [hy])
  have e3 : two e = two 0 := by rw [e1.1, ← e2.2]; decide
  have e4 : three s = three 0 := by rw [e1.2, ← e2.1]; decide
  have := two_inj he (by decide) e3
  have := three_inj hs (by decide) e4
  omega
/-! ### A sector, opened again -/
theorem sealB_at {e s p n : Int} {b : List UInt8} (hb : b.length ≤ 19) : ∀ k, k < 32 → (sealB e s p n b).getD k 0 = ([u8 (e / 2 ^ 8), u8 e, u8 (s / 2 ^ 16), u8 (s / 2 ^ 8), u8 s, u8 p, u8 n, u8 b.length] ++ (b ++ List.replicate (19 - b.length) 0) ++ [u8 (s / 2 ^ 16), u8 (s / 2 ^ 8), u8 s, u8 (e / 2 ^ 8), u8 e]).getD k 0 := by
  intro k hk
  congr 1
  simp [sealB, two, three]
theorem sealB_open {e s p n : Int} {b : List UInt8} (h : sealM e s p n b = true) : epochOf (sealB e s p n b) = e ∧ seqOf (sealB e s p n b) = s ∧ bat (sealB e s p n b) 5 = p ∧ bat (sealB e s p n b) 6 = n ∧ bat (sealB e s p n b) 7 = b.length ∧ bodyOf (sealB e s p n b) = b := by
  obtain ⟨he, hs, hp, hpn, hn, hb⟩ := sealM_parts h
  have g : ∀ k : Nat, k < 8 → bat (sealB e s p n b) (k : Int) = (([u8 (e / 2 ^ 8), u8 e, u8 (s / 2 ^ 16), u8 (s / 2 ^ 8), u8 s, u8 p, u8 n, u8 b.length].getD k 0).toNat : Int) := by
    intro k hk
    unfold bat
    rw [Int.toNat_natCast, sealB_at hb k (by omega)]
    simp only [List.getD_eq_getElem?_getD]
    rw [List.append_assoc, List.getElem?_append_left (by simpa using hk)]
  have g0 := g 0 (by decide); have g1 := g 1 (by decide); have g2 := g 2 (by decide); have g3 := g 3 (by decide); have g4 := g 4 (by decide)
  have g5 := g 5 (by decide); have g6 := g 6 (by decide); have g7 := g 7 (by decide)
  simp only [List.getD_eq_getElem?_getD, List.getElem?_cons_zero, List.getElem?_cons_succ, Option.getD_some, u8_toNat] at g0 g1 g2 g3 g4 g5 g6 g7
  have k7 : bat (sealB e s p n b) 7 = (b.length : Int) := by rw [show (7 : Int) = ((7 : Nat) : Int) from rfl, g7]; omega
  refine ⟨?_, ?_, ?_, ?_, k7, ?_⟩
  · unfold epochOf
    rw [show (0 : Int) = ((0 : Nat) : Int) from rfl, show (1 : Int) = ((1 : Nat) : Int) from rfl, g0, g1]; omega
  · unfold seqOf
    rw [show (2 : Int) = ((2 : Nat) : Int) from rfl, show (3 : Int) = ((3 : Nat) : Int) from rfl, show (4 : Int) = ((4 : Nat) : Int) from rfl, g2, g3, g4]; omega
  · rw [show (5 : Int) = ((5 : Nat) : Int) from rfl, g5]; omega
  · rw [show (6 : Int) = ((6 : Nat) : Int) from rfl, g6]; omega
  · unfold bodyOf
    have hN : batN (sealB e s p n b) 7 = b.length := by have := bat_N (sealB e s p n b) 7; omega
    rw [hN]
    have e1 : sealB e s p n b = (two e ++ three s ++ [u8 p, u8 n, u8 b.length]) ++ (b ++ (List.replicate (19 - b.length) 0 ++ three s ++ two e)) := by simp [sealB]
    rw [e1, List.drop_append, List.drop_eq_nil_of_le (by simp [two, three])]
    simp [two, three]
theorem sealB_openOk {e s p n : Int} {b : List UInt8} (h : sealM e s p n b = true) : openOk (sealB e s p n b) = true := by
  obtain ⟨h1, h2, h3, h4, h5, h6⟩ := sealB_open h
  have hb := (sealM_parts h).2.2.2.2.2
  refine openOk_all (sealB_length hb) (by rw [h5]; omega) ?_ ?_
  · rw [h1, h2, h3, h4, h6]; exact h
  · rw [h1, h2, h3, h4, h6]
theorem openR_sealB {e s p n : Int} {b : List UInt8} (h : sealM e s p n b = true) : openR (sealB e s p n b) = ⟨e, s, p, n, b, 0⟩ := by
  rw [openR_ok (sealB_openOk h)]
  obtain ⟨h1, h2, h3, h4, h5, h6⟩ := sealB_open h
  rw [h1, h2, h3, h4, h6]
theorem openR_err (s : List UInt8) : (openR s).err = if openOk s then 0 else 2 := by
  unfold openR
  split <;> rfl
end Go.Proofs.YthocicjjighbnaaX
