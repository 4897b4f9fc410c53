/- Lines, headers, answers as lists of bytes. Plain lemmas, no program in sight. -/
import Derived.Test.YtfjghkmapccjhaaDoorJ2
import Derived.Lib.IndexMore
import Derived.Lib.TrimByte
namespace Go.Proofs.YtfjghkmapccjhaaDoorX
set_option linter.unusedVariables false
set_option linter.unusedSimpArgs false
open Go Go.RowKit

/-- Is there a pair 13, 10? -/
def hasC : List UInt8 → Bool
  | [] => false
  | c :: r => (c == 13 && r.head? == some 10) || hasC r
def crL : List UInt8 := [13, 10]
theorem crL_pre (c : UInt8) (r : List UInt8) : crL.isPrefixOf (c :: r) = (c == 13 && r.head? == some 10) := by
  unfold crL
  cases r with
  | nil => simp [List.isPrefixOf]
  | cons d r =>
    simp only [List.isPrefixOf, Bool.and_true, List.head?_cons]
    rw [show ((13 : UInt8) == c) = (c == 13) from Bool.beq_comm .., show ((10 : UInt8) == d) = (some d == some (10 : UInt8)) by rw [Option.some_beq_some]; exact Bool.beq_comm ..]
theorem hasC_index : ∀ l : List UInt8, hasC l = false ↔ Lib.index l crL = -1
  | [] => by simp [hasC, Lib.index, crL]
  | c :: r => by
    have ih := hasC_index r
    unfold hasC Lib.index
    rw [crL_pre]
    cases h : (c == 13 && r.head? == some 10) with
    | true => simp
    | false =>
      rw [Bool.false_or, ih, if_neg (by decide)]
      have := Lib.index_ge r crL
      by_cases h2 : Lib.index r crL = -1
      · simp [h2]
      · rw [if_neg (by simpa using h2)]
        omega
theorem cut_no {l : List UInt8} (h : hasC l = false) : Lib.cut l crL = (l, [], false) := by
  unfold Lib.cut
  rw [(hasC_index l).1 h, if_neg (by decide)]
theorem index_at : ∀ {a : List UInt8} (b : List UInt8), hasC a = false → Lib.index (a ++ 13 :: 10 :: b) crL = a.length
  | [], b, _ => by
    rw [List.nil_append]
    unfold Lib.index
    rw [crL_pre, if_pos (by simp)]
    rfl
  | c :: r, b, h => by
    unfold hasC at h
    rw [Bool.or_eq_false_iff] at h
    have ih := index_at (a := r) b h.2
    rw [List.cons_append]
    unfold Lib.index
    rw [crL_pre, if_neg, ih, if_neg (by rw [beq_iff_eq]; omega), List.length_cons]
    · rfl
    · intro h2
      rw [Bool.and_eq_true] at h2
      cases r with
      | nil =>
        rw [beq_iff_eq] at h2
        have := h2.2
        simp at this
      | cons d r =>
        have h3 := h.1
        rw [Bool.and_eq_false_iff] at h3
        rcases h3 with h3 | h3
        · rw [h2.1] at h3; cases h3
        · rw [List.cons_append, List.head?_cons] at h2
          rw [List.head?_cons, h2.2] at h3
          cases h3
theorem cut_at {a : List UInt8} (b : List UInt8) (h : hasC a = false) : Lib.cut (a ++ 13 :: 10 :: b) crL = (a, b, true) := by
  unfold Lib.cut
  rw [index_at b h, if_pos (by omega), Int.toNat_natCast, List.take_left]
  show (a, (a ++ 13 :: 10 :: b).drop (a.length + 2), true) = _
  rw [show a.length + 2 = (a ++ [13, 10]).length by simp, show a ++ 13 :: 10 :: b = (a ++ [13, 10]) ++ b by simp, List.drop_left]
theorem hasC_split : ∀ {l : List UInt8}, hasC l = true → ∃ a b, l = a ++ 13 :: 10 :: b ∧ hasC a = false
  | [], h => by cases h
  | c :: r, h => by
    unfold hasC at h
    cases h1 : (c == 13 && r.head? == some 10) with
    | true =>
      rw [Bool.and_eq_true, beq_iff_eq, beq_iff_eq] at h1
      obtain ⟨rfl, h2⟩ := h1
      cases r with
      | nil => cases h2
      | cons d r =>
        obtain rfl : d = 10 := by simpa using h2
        exact ⟨[], r, rfl, rfl⟩
    | false =>
      rw [h1, Bool.false_or] at h
      obtain ⟨a, b, rfl, ha⟩ := hasC_split h
      refine ⟨c :: a, b, rfl, ?_⟩
      unfold hasC
      rw [ha, Bool.or_false, Bool.and_eq_false_iff]
      rw [Bool.and_eq_false_iff] at h1
      rcases h1 with h1 | h1
      · exact .inl h1
      · refine .inr ?_
        cases a with
        | nil => rfl
        | cons d a => simpa using h1
/-- The first line, and what is behind it; none: there is no end of a line. -/
def lineL (l : List UInt8) : Option (List UInt8 × List UInt8) := if hasC l = true then some ((Lib.cut l crL).1, (Lib.cut l crL).2.1) else none
theorem lineL_at {a : List UInt8} (b : List UInt8) (h : hasC a = false) : lineL (a ++ 13 :: 10 :: b) = some (a, b) := by
  have hc := cut_at b h
  have h2 : hasC (a ++ 13 :: 10 :: b) = true := by
    cases h3 : hasC (a ++ 13 :: 10 :: b) with
    | true => rfl
    | false => rw [cut_no h3] at hc; simp at hc
  unfold lineL
  rw [if_pos h2, hc]
theorem lineL_no {l : List UInt8} (h : hasC l = false) : lineL l = none := by unfold lineL; rw [h]; rfl
theorem lineL_len {l a b : List UInt8} (h : lineL l = some (a, b)) : l = a ++ 13 :: 10 :: b ∧ hasC a = false := by
  cases hc : hasC l with
  | false => rw [lineL_no hc] at h; cases h
  | true =>
    obtain ⟨x, y, rfl, hx⟩ := hasC_split hc
    rw [lineL_at y hx] at h
    obtain ⟨rfl, rfl⟩ := Prod.mk.inj (Option.some.inj h)
    exact ⟨rfl, hx⟩
theorem cut_line (l : List UInt8) : Lib.cut l crL = match lineL l with | some (a, b) => (a, b, true) | none => (l, [], false) := by
  cases hc : hasC l with
  | false => rw [lineL_no hc, cut_no hc]
  | true =>
    obtain ⟨x, y, rfl, hx⟩ := hasC_split hc
    rw [lineL_at y hx, cut_at y hx]
/-- Where the first pair stands. -/
theorem hasC_take {l : List UInt8} {k : Nat} (h : ∀ j, j + 1 < k → ¬ (l.getD j 0 = 13 ∧ l.getD (j + 1) 0 = 10)) (hk : k ≤ l.length) : hasC (l.take k) = false := by
  induction k generalizing l with
  | zero => simp [hasC]
  | succ k ih =>
    cases l with
    | nil => rfl
    | cons c r =>
      rw [List.take_succ_cons]
      unfold hasC
      rw [ih (l := r) (fun j hj => by have := h (j + 1) (by omega); simpa using this) (by simpa using hk), Bool.or_false, Bool.and_eq_false_iff]
      by_cases hc : c = 13
      · refine .inr ?_
        cases k with
        | zero => rfl
        | succ k =>
          cases r with
          | nil => rfl
          | cons d r =>
            have := h 0 (by omega)
            simp only [List.getD_cons_zero, List.getD_cons_succ] at this
            rw [List.take_succ_cons, List.head?_cons]
            simp only [Option.some_beq_some, beq_eq_false_iff_ne]
            exact fun hd => this ⟨hc, hd⟩
      · exact .inl (by simpa using hc)
theorem line_here {l : List UInt8} {k : Nat} (h : ∀ j, j < k → ¬ (l.getD j 0 = 13 ∧ l.getD (j + 1) 0 = 10)) (hk : k + 1 < l.length) (h1 : l.getD k 0 = 13) (h2 : l.getD (k + 1) 0 = 10) : lineL l = some (l.take k, l.drop (k + 2)) := by
  have e : l = l.take k ++ 13 :: 10 :: l.drop (k + 2) := by
    have e1 : l.drop k = l[k] :: l[k + 1] :: l.drop (k + 2) := by rw [List.drop_eq_getElem_cons (by omega), List.drop_eq_getElem_cons (by omega)]
    rw [List.getD_eq_getElem?_getD, List.getElem?_eq_getElem (by omega), Option.getD_some] at h1 h2
    rw [h1, h2] at e1
    rw [← e1, List.take_append_drop]
  have := lineL_at (l.drop (k + 2)) (hasC_take (l := l) (k := k) (fun j hj => h j (by omega)) (by omega))
  rw [← e] at this
  exact this
theorem line_none {l : List UInt8} (h : ∀ j, j + 1 < l.length → ¬ (l.getD j 0 = 13 ∧ l.getD (j + 1) 0 = 10)) : lineL l = none := by
  have := hasC_take (l := l) (k := l.length) h (Nat.le_refl _)
  rw [List.take_length] at this
  exact lineL_no this
/-- Blanks left out at both ends: it does not matter which first. -/
theorem dropWhile_all {p : UInt8 → Bool} : ∀ {l : List UInt8}, (∀ x ∈ l, p x = true) → l.dropWhile p = []
  | [], _ => rfl
  | c :: r, h => by rw [List.dropWhile_cons, if_pos (h c (by simp)), dropWhile_all (fun x hx => h x (List.mem_cons_of_mem _ hx))]
theorem mem_takeW {p : UInt8 → Bool} : ∀ {l : List UInt8} {x : UInt8}, x ∈ l.takeWhile p → p x = true
  | [], x, h => by cases h
  | d :: l, x, h => by
    rw [List.takeWhile_cons] at h
    split at h
    · rename_i hd
      rcases List.mem_cons.1 h with rfl | h
      · exact hd
      · exact mem_takeW h
    · cases h
theorem dropWhile_app {p : UInt8 → Bool} {a b : List UInt8} (h : ∃ x ∈ a, p x = false) : (a ++ b).dropWhile p = a.dropWhile p ++ b := by
  induction a with
  | nil => obtain ⟨x, hx, _⟩ := h; cases hx
  | cons c r ih =>
    rw [List.cons_append, List.dropWhile_cons, List.dropWhile_cons]
    by_cases hc : p c = true
    · rw [if_pos hc, if_pos hc]
      refine ih ?_
      obtain ⟨x, hx, hp⟩ := h
      rcases List.mem_cons.1 hx with rfl | hx
      · rw [hc] at hp; cases hp
      · exact ⟨x, hx, hp⟩
    · rw [if_neg hc, if_neg hc, List.cons_append]
theorem dropWhile_head {p : UInt8 → Bool} : ∀ {l : List UInt8} {c : UInt8} {r : List UInt8}, l.dropWhile p = c :: r → p c = false
  | [], c, r, h => by cases h
  | d :: l, c, r, h => by
    rw [List.dropWhile_cons] at h
    split at h
    · exact dropWhile_head h
    · rename_i hd
      obtain ⟨rfl, rfl⟩ := List.cons.inj h
      simpa using hd
theorem trim_swap (l : List UInt8) (c : UInt8) : Lib.trimRightB (Lib.trimLeftB l c) c = Lib.trimB l c := by
  unfold Lib.trimB
  have e : l = l.takeWhile (· == c) ++ l.dropWhile (· == c) := (List.takeWhile_append_dropWhile ..).symm
  have hp : ∀ x ∈ l.takeWhile (· == c), (x == c) = true := fun x hx => mem_takeW (p := (· == c)) hx
  cases hq : l.dropWhile (· == c) with
  | nil =>
    have hall : ∀ x ∈ l, (x == c) = true := by rw [hq, List.append_nil] at e; rw [e]; exact hp
    have h1 : Lib.trimLeftB l c = [] := by unfold Lib.trimLeftB; exact hq
    have h2 : Lib.trimRightB l c = [] := by unfold Lib.trimRightB; rw [dropWhile_all (fun x hx => hall x (by simpa using hx))]; rfl
    rw [h1, h2]
    rfl
  | cons d r =>
    have hd := dropWhile_head hq
    have h1 : Lib.trimLeftB l c = d :: r := by unfold Lib.trimLeftB; exact hq
    have h2 : Lib.trimRightB l c = l.takeWhile (· == c) ++ Lib.trimRightB (d :: r) c := by
      unfold Lib.trimRightB
      conv => lhs; rw [e, hq]
      rw [List.reverse_append, dropWhile_app ⟨d, by simp, hd⟩, List.reverse_append, List.reverse_reverse]
    rw [h1, h2]
    have h3 : ∃ r', Lib.trimRightB (d :: r) c = d :: r' := by
      unfold Lib.trimRightB
      rw [List.reverse_cons]
      by_cases hr : ∃ x ∈ r.reverse, (x == c) = false
      · rw [dropWhile_app hr, List.reverse_append]
        exact ⟨_, rfl⟩
      · rw [List.dropWhile_append]
        rw [dropWhile_all (fun x hx => by
          cases hx2 : (x == c) with
          | true => rfl
          | false => exact absurd ⟨x, hx, hx2⟩ hr)]
        simp only [List.isEmpty_nil, if_true, List.dropWhile_cons, hd, Bool.false_eq_true, if_false]
        exact ⟨[], rfl⟩
    obtain ⟨r', h3⟩ := h3
    rw [h3]
    unfold Lib.trimLeftB
    rw [List.dropWhile_append, dropWhile_all hp]
    simp only [List.isEmpty_nil, if_true, List.dropWhile_cons, hd, Bool.false_eq_true, if_false]
theorem trimL_head {l : List UInt8} {c d : UInt8} {r : List UInt8} (h : Lib.trimB l c = d :: r) : d ≠ c := by
  unfold Lib.trimB Lib.trimLeftB at h
  have := dropWhile_head h
  intro e
  rw [e] at this
  simp at this
theorem trimR_last {l : List UInt8} {c d : UInt8} {r : List UInt8} (h : Lib.trimB l c = r ++ [d]) : d ≠ c := by
  rw [← trim_swap] at h
  unfold Lib.trimRightB at h
  have h2 := congrArg List.reverse h
  rw [List.reverse_reverse, List.reverse_append] at h2
  have := dropWhile_head (c := d) (r := r.reverse) (by simpa using h2)
  intro e
  rw [e] at this
  simp at this
end Go.Proofs.YtfjghkmapccjhaaDoorX
