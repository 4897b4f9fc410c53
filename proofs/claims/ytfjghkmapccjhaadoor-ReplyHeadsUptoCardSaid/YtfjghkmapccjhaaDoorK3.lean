/- Answers cut off; lengths told. Plain lemmas, no program in sight. -/
import Derived.Test.YtfjghkmapccjhaaDoorK2
namespace Go.Proofs.YtfjghkmapccjhaaDoorX
set_option linter.unusedVariables false
set_option linter.unusedSimpArgs false
open Go Go.RowKit
theorem hasC_pre : ∀ {a b : List UInt8}, hasC (a ++ b) = false → hasC a = false
  | [], b, _ => rfl
  | c :: r, b, h => by
    rw [List.cons_append] at h
    unfold hasC at h ⊢
    rw [Bool.or_eq_false_iff] at h
    rw [hasC_pre h.2, Bool.or_false]
    cases r with
    | nil => simp
    | cons d r => simpa using h.1
theorem hasC_13 : ∀ {a : List UInt8}, hasC a = false → hasC (a ++ [13]) = false
  | [], _ => rfl
  | c :: r, h => by
    rw [List.cons_append]
    unfold hasC at h ⊢
    rw [Bool.or_eq_false_iff] at h
    rw [hasC_13 h.2, Bool.or_false]
    cases r with
    | nil =>
      cases hc : (c == 13) <;> simp
    | cons d r => simpa using h.1
/-- What is ahead of the end of a first line has no line. -/
theorem ahead {x p q R : List UInt8} (hx : hasC x = false) (h : p ++ q = x ++ 13 :: 10 :: R) : hasC p = false ∨ ∃ p', p = x ++ 13 :: 10 :: p' ∧ p' ++ q = R := by
  rcases List.append_eq_append_iff.1 h with ⟨t, h1, h2⟩ | ⟨t, h1, h2⟩
  · left
    rw [h1] at hx
    exact hasC_pre hx
  · cases t with
    | nil =>
      left
      rw [h1, List.append_nil]
      exact hx
    | cons a t =>
      rw [List.cons_append] at h2
      obtain ⟨rfl, h3⟩ := List.cons.inj h2
      cases t with
      | nil =>
        left
        rw [h1]
        exact hasC_13 hx
      | cons b t =>
        rw [List.cons_append] at h3
        obtain ⟨rfl, h4⟩ := List.cons.inj h3
        right
        exact ⟨t, h1, h4.symm⟩
theorem lines_ahead : ∀ (rs : List (List UInt8 × HL)) (f : Nat) (p q : List UInt8), (∀ x ∈ rs, GoodR x) → p ++ q = rowsT rs [] → q ≠ [] → linesL f p = none
  | [], f, p, q, _, h, hq => by
    rcases ahead (x := []) rfl h with h1 | ⟨p', _, h2⟩
    · unfold linesL
      rw [lineL_no h1]
    · exact absurd (List.append_eq_nil_iff.1 h2).2 hq
  | x :: r, f, p, q, hg, h, hq => by
    obtain ⟨g1, g2, g3⟩ := hg x (by simp)
    rcases ahead g1 h with h1 | ⟨p', h1, h2⟩
    · unfold linesL
      rw [lineL_no h1]
    · rw [h1, lines_row g1 g2 g3]
      cases f with
      | zero => rfl
      | succ f =>
        dsimp only
        rw [lines_ahead r f p' q (fun y hy => hg y (List.mem_cons_of_mem _ hy)) h2 hq]
        rfl
theorem parse_ahead {n : Nat} (rs : List (List UInt8 × HL)) (p q : List UInt8) (hg : ∀ x ∈ rs, GoodR x) (h : p ++ q = firstL n ++ 13 :: 10 :: rowsT rs []) (hq : q ≠ []) : parseL p = none := by
  rcases ahead (first_noC n) h with h1 | ⟨p', h1, h2⟩
  · unfold parseL
    rw [lineL_no h1]
  · unfold parseL
    rw [h1, lineL_at _ (first_noC n)]
    dsimp only
    rw [lines_ahead rs 8 p' q hg h2 hq]
    split <;> rfl
/-- A header that tells a number. -/
theorem trim_self {l : List UInt8} {c : UInt8} (h : ∀ x ∈ l, x ≠ c) : Lib.trimB l c = l := by
  have hd : ∀ {m : List UInt8}, (∀ x ∈ m, x ≠ c) → m.dropWhile (· == c) = m := fun {m} hm => by
    cases m with
    | nil => rfl
    | cons d r => rw [List.dropWhile_cons, if_neg (by simpa using hm d (by simp))]
  unfold Lib.trimB Lib.trimLeftB Lib.trimRightB
  rw [hd (m := l.reverse) (fun x hx => h x (List.mem_reverse.1 hx)), List.reverse_reverse, hd h]
theorem trim_blank {l : List UInt8} {c : UInt8} (h : ∀ x ∈ l, x ≠ c) : Lib.trimB (c :: l) c = l := by
  rw [← trim_swap]
  have h1 : Lib.trimLeftB (c :: l) c = Lib.trimLeftB l c := by unfold Lib.trimLeftB; rw [List.dropWhile_cons, if_pos (by simp)]
  rw [h1, trim_swap, trim_self h]
theorem cutL_here {a b : List UInt8} {c : UInt8} (h : c ∉ a) : cutL (a ++ c :: b) c = (a, b, true) := cutL_at h
theorem dd_byte (n : Nat) : ∀ c ∈ Lib.decDigits n, isDigit c = true := List.all_eq_true.1 (dd_all n)
theorem dig_ne {c : UInt8} (h : isDigit c = true) (d : UInt8) (hd : isDigit d = false) : c ≠ d := fun e => by rw [e, hd] at h; cases h
theorem dig_vl {c : UInt8} (h : isDigit c = true) : vlB c = true := by
  unfold isDigit at h
  rw [Bool.and_eq_true, decide_eq_true_eq, decide_eq_true_eq] at h
  unfold vlB
  rw [decide_eq_true_eq]
  omega
theorem len_row {nm : List UInt8} (h1 : nmOk nm = true) (h2 : ∀ c ∈ nm, c ≠ 58 ∧ c ≠ 13) (k : Nat) (hk : k < 1000000) : GoodR (nm ++ 58 :: 32 :: Lib.decDigits k, (nm, Lib.decDigits k)) := by
  have hd := dd_byte k
  have hl := dd_le 5 k (by omega)
  refine ⟨hasC_no13 fun c hc => ?_, by simp, ?_⟩
  · rcases List.mem_append.1 hc with hc | hc
    · exact (h2 c hc).2
    · rcases List.mem_cons.1 hc with rfl | hc
      · decide
      · rcases List.mem_cons.1 hc with rfl | hc
        · decide
        · exact dig_ne (hd c hc) 13 (by decide)
  · unfold oneL
    dsimp only
    rw [cutL_at (fun hm => (h2 58 hm).1 rfl)]
    dsimp only
    rw [trim_blank (fun x hx => dig_ne (hd x hx) 32 (by decide)), if_pos]
    refine ⟨rfl, h1, ?_⟩
    unfold vlOk
    rw [decide_eq_true (show (Lib.decDigits k).length ≤ 40 by omega), Bool.true_and, List.all_eq_true]
    exact fun c hc => dig_vl (hd c hc)
theorem body_len (k : Nat) (hk : k < 1000000) (b : List UInt8) : bodyL [Lib.decDigits k] b = some (b.take k, decide (b.length < k)) := by
  unfold bodyL
  dsimp only
  rw [number_dd, if_pos hk]
  simp
end Go.Proofs.YtfjghkmapccjhaaDoorX
