/- The document's tags and spans: the same as the program's. -/
import Derived.Test.YtfjghkmapccjhaaDoorT
import Derived.Test.YtfjghkmapccjhaaDoorJ6
namespace Go.Proofs.YtfjghkmapccjhaaDoorX
set_option linter.unusedVariables false
set_option linter.unusedSimpArgs false
open Go Go.RowKit Go.Proofs

theorem idxB_cons (b : UInt8) (r : List UInt8) (c : UInt8) : idxB (b :: r) c = if b == c then 0 else if idxB r c == -1 then -1 else idxB r c + 1 := rfl
theorem idxB_no : ∀ {l : List UInt8} {c : UInt8}, c ∉ l → idxB l c = -1
  | [], _, _ => rfl
  | b :: r, c, h => by
    rw [idxB_cons, idxB_no (fun hm => h (List.mem_cons_of_mem _ hm)), if_neg (by intro hb; exact h (by rw [beq_iff_eq.1 hb]; exact List.mem_cons_self ..))]
    rfl
theorem idxB_at : ∀ {a b : List UInt8} {c : UInt8}, c ∉ a → idxB (a ++ c :: b) c = a.length
  | [], b, c, _ => by rw [List.nil_append, idxB_cons, if_pos (by simp)]; rfl
  | x :: r, b, c, h => by
    have ih := idxB_at (a := r) (b := b) (c := c) (fun hm => h (List.mem_cons_of_mem _ hm))
    rw [List.cons_append, idxB_cons, ih, if_neg (by intro hb; exact h (by rw [beq_iff_eq.1 hb]; exact List.mem_cons_self ..)), if_neg (by rw [beq_iff_eq]; omega), List.length_cons]
    rfl
theorem cutL_no {l : List UInt8} {c : UInt8} (h : c ∉ l) : cutL l c = (l, [], false) := by
  unfold cutL
  rw [idxB_no h, if_neg (by decide)]
theorem cutL_at {a b : List UInt8} {c : UInt8} (h : c ∉ a) : cutL (a ++ c :: b) c = (a, b, true) := by
  unfold cutL
  rw [idxB_at h, if_pos (by omega), Int.toNat_natCast, List.take_left, show a.length + 1 = (a ++ [c]).length by simp, show a ++ c :: b = (a ++ [c]) ++ b by simp, List.drop_left]
theorem only1 {a : List UInt8} {c : UInt8} (h : c ∉ a) : ∀ x ∈ a, [c].contains x = false := by
  intro x hx
  rw [List.contains_eq_mem, decide_eq_false_iff_not, List.mem_singleton]
  rintro rfl
  exact h hx
theorem until1_no {l : List UInt8} {c : UInt8} (h : c ∉ l) : untilL [c] l = (l, []) := untilL_no (only1 h)
theorem until1_at {a b : List UInt8} {c : UInt8} (h : c ∉ a) : untilL [c] (a ++ c :: b) = (a, c :: b) := untilL_at (only1 h) (by simp)
def Z3 : Int × Int × Int × Bool := (0, 0, 0, false)
def span3 (d e f : Option Int) : Int × Int × Int × Bool := if d.isSome = true ∧ e.isSome = true ∧ f.isSome = true ∧ d.getD 0 ≤ e.getD 0 ∧ e.getD 0 < f.getD 0 then (d.getD 0, e.getD 0, f.getD 0, true) else Z3
def refSpanR (s : ByteArray) : Int × Int × Int × Bool :=
  if preS s bytesS = true then
    let x := untilL [45] (s.toList.drop 6)
    if x.2 = [] then Z3 else
    let y := untilL [47] (x.2.drop 1)
    if y.2 = [] then Z3 else span3 (numberR x.1) (numberR y.1) (numberR (y.2.drop 1))
  else Z3
theorem numberC_bad {l : List UInt8} {c : UInt8} (h : c ∈ l) (hc : isDigit c = false) : numberR l = none := by
  unfold numberR
  split
  · rfl
  · rw [if_neg (by intro ha; rw [List.all_eq_true] at ha; have := ha c h; rw [hc] at this; cases this)]
theorem span_of (s : ByteArray) : spanR s = if preS s bytesS = true then
    (if (cutL (s.toList.drop 6) 47).2.2 = true ∧ (cutL (cutL (s.toList.drop 6) 47).1 45).2.2 = true then
      span3 (numberR (cutL (cutL (s.toList.drop 6) 47).1 45).1) (numberR (cutL (cutL (s.toList.drop 6) 47).1 45).2.1) (numberR (cutL (s.toList.drop 6) 47).2.1) else Z3) else Z3 := by
  have hr : preS s bytesS = true → (restR s).toList = s.toList.drop 6 := fun hp => by
    unfold restR
    rw [if_pos hp, extract_list, show bytesS.size = 6 from rfl, List.take_of_length_le (by rw [List.length_drop, size_toList]; omega)]
  unfold spanR
  by_cases h : SpanOk (spanP s)
  · rw [if_pos h]
    unfold SpanOk spanP at h
    dsimp only at h
    rw [hr h.1] at h
    obtain ⟨h1, h2, h3, h4⟩ := h
    rw [if_pos h1, if_pos ⟨h2, h3⟩]
    unfold span3
    rw [if_pos h4]
    unfold spanP
    dsimp only
    rw [hr h1]
  · rw [if_neg h]
    unfold SpanOk spanP at h
    dsimp only at h
    by_cases hp : preS s bytesS = true
    · rw [hr hp] at h
      rw [if_pos hp]
      by_cases hbc : (cutL (s.toList.drop 6) 47).2.2 = true ∧ (cutL (cutL (s.toList.drop 6) 47).1 45).2.2 = true
      · rw [if_pos hbc]
        unfold span3
        rw [if_neg (fun h' => h ⟨hp, hbc.1, hbc.2, h'⟩)]
        rfl
      · rw [if_neg hbc]
        rfl
    · rw [if_neg hp]
      rfl
theorem span_law (s : ByteArray) : refSpanR s = spanR s := by
  rw [span_of]
  unfold refSpanR
  by_cases hp : preS s bytesS = true
  · rw [if_pos hp, if_pos hp]
    generalize s.toList.drop 6 = r
    dsimp only
    by_cases h45 : (45 : UInt8) ∈ r
    · obtain ⟨a, q, rfl, ha⟩ := List.eq_append_cons_of_mem h45
      rw [until1_at ha]
      dsimp only
      rw [if_neg (by simp), List.drop_succ_cons, List.drop_zero]
      by_cases h47 : (47 : UInt8) ∈ q
      · obtain ⟨b, t, rfl, hb⟩ := List.eq_append_cons_of_mem h47
        rw [until1_at hb]
        dsimp only
        rw [if_neg (by simp), List.drop_succ_cons, List.drop_zero]
        by_cases hA : (47 : UInt8) ∈ a
        · rw [numberC_bad hA (by decide)]
          obtain ⟨a1, a2, rfl, hb1⟩ := List.eq_append_cons_of_mem hA
          rw [List.append_assoc, List.cons_append, cutL_at hb1]
          dsimp only
          rw [cutL_no (fun h => ha (by simp [h])), if_neg (by simp)]
          unfold span3
          rw [if_neg (by simp)]
        · have e : a ++ 45 :: (b ++ 47 :: t) = (a ++ 45 :: b) ++ 47 :: t := by simp
          rw [e, cutL_at (by simp [hA, hb])]
          dsimp only
          rw [cutL_at ha]
          simp
      · rw [until1_no h47]
        dsimp only
        rw [if_pos rfl]
        by_cases hA : (47 : UInt8) ∈ a
        · obtain ⟨a1, a2, rfl, hb1⟩ := List.eq_append_cons_of_mem hA
          rw [List.append_assoc, List.cons_append, cutL_at hb1]
          dsimp only
          rw [cutL_no (fun h => ha (by simp [h])), if_neg (by simp)]
        · rw [cutL_no (by simp [hA, h47]), if_neg (by simp)]
    · rw [until1_no h45]
      dsimp only
      rw [if_pos rfl]
      by_cases h47 : (47 : UInt8) ∈ r
      · obtain ⟨a1, a2, rfl, hb1⟩ := List.eq_append_cons_of_mem h47
        rw [cutL_at hb1]
        dsimp only
        rw [cutL_no (fun h => h45 (by simp [h])), if_neg (by simp)]
      · rw [cutL_no h47, if_neg (by simp)]
  · rw [if_neg hp, if_neg hp]
end Go.Proofs.YtfjghkmapccjhaaDoorX
