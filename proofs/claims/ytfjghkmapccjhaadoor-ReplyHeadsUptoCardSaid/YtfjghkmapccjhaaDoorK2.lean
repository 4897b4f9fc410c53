/- Answers printed, cut, with headers in order: what parsing them comes to. Plain lemmas, no program in sight. -/
import Derived.Test.YtfjghkmapccjhaaDoorK1
import Derived.Test.YtfjghkmapccjhaaDoorJ11
namespace Go.Proofs.YtfjghkmapccjhaaDoorX
set_option linter.unusedVariables false
set_option linter.unusedSimpArgs false
open Go Go.RowKit
theorem lines_end (f : Nat) (b : List UInt8) : linesL f (13 :: 10 :: b) = some ([], b) := by
  have h := lineL_at (a := []) b rfl
  rw [List.nil_append] at h
  unfold linesL
  rw [h]
  rfl
theorem lines_row {l : List UInt8} {h : HL} (hc : hasC l = false) (h0 : l ≠ []) (ho : oneL l = some h) (f : Nat) (r : List UInt8) : linesL f (l ++ 13 :: 10 :: r) = match f with | 0 => none | f + 1 => (linesL f r).map fun x => (h :: x.1, x.2) := by
  have hl := lineL_at r hc
  cases f with
  | zero =>
    unfold linesL
    rw [hl]
    dsimp only
    rw [if_neg h0, ho]
  | succ f =>
    conv => lhs; unfold linesL
    rw [hl]
    dsimp only
    rw [if_neg h0, ho]
/-- A text of rows. -/
def rowsT : List (List UInt8 × HL) → List UInt8 → List UInt8
  | [], b => 13 :: 10 :: b
  | x :: r, b => x.1 ++ 13 :: 10 :: rowsT r b
def GoodR (x : List UInt8 × HL) : Prop := hasC x.1 = false ∧ x.1 ≠ [] ∧ oneL x.1 = some x.2
theorem lines_rows : ∀ (rs : List (List UInt8 × HL)) (f : Nat) (b : List UInt8), (∀ x ∈ rs, GoodR x) → linesL f (rowsT rs b) = if rs.length ≤ f then some (rs.map (·.2), b) else none
  | [], f, b, _ => by rw [rowsT, lines_end, if_pos (show ([] : List (List UInt8 × HL)).length ≤ f from Nat.zero_le _)]; rfl
  | x :: r, f, b, h => by
    obtain ⟨h1, h2, h3⟩ := h x (by simp)
    rw [rowsT, lines_row h1 h2 h3]
    cases f with
    | zero => rw [if_neg (by simp)]
    | succ f =>
      dsimp only
      rw [lines_rows r f b (fun y hy => h y (List.mem_cons_of_mem _ hy))]
      by_cases hl : r.length ≤ f
      · rw [if_pos hl, if_pos (by simpa using hl)]
        rfl
      · rw [if_neg hl, if_neg (by simpa using hl)]
        rfl
theorem rowsT_more (rs : List (List UInt8 × HL)) (x : List UInt8 × HL) (b : List UInt8) : ∃ p, (∀ b, rowsT rs b = p ++ 13 :: 10 :: b) ∧ ∀ b, rowsT (rs ++ [x]) b = p ++ x.1 ++ 13 :: 10 :: 13 :: 10 :: b := by
  induction rs with
  | nil => exact ⟨[], fun _ => rfl, fun _ => by simp [rowsT]⟩
  | cons y r ih =>
    obtain ⟨p, h1, h2⟩ := ih
    exact ⟨y.1 ++ 13 :: 10 :: p, fun b => by rw [rowsT, h1]; simp, fun b => by rw [List.cons_append, rowsT, h2]; simp⟩
/-- The text of rows without what is behind it. -/
def rowsP (rs : List (List UInt8 × HL)) : List UInt8 := rs.flatMap fun x => x.1 ++ [13, 10]
theorem rowsT_eq : ∀ (rs : List (List UInt8 × HL)) (b : List UInt8), rowsT rs b = rowsP rs ++ 13 :: 10 :: b
  | [], b => rfl
  | x :: r, b => by
    rw [rowsT, rowsT_eq r b]
    unfold rowsP
    simp
theorem hasC_app_no {a : List UInt8} (h : ∀ c ∈ a, c ≠ 13) : ∀ {b : List UInt8}, hasC (a ++ b) = hasC b := by
  induction a with
  | nil => intro b; rfl
  | cons c r ih =>
    intro b
    rw [List.cons_append]
    conv => lhs; unfold hasC
    rw [ih (fun x hx => h x (List.mem_cons_of_mem _ hx)), show (c == 13) = false by simpa using h c (by simp), Bool.false_and, Bool.false_or]
theorem hasC_no13 {a : List UInt8} (h : ∀ c ∈ a, c ≠ 13) : hasC a = false := by
  have := hasC_app_no h (b := [])
  rw [List.append_nil] at this
  rw [this]
  rfl
theorem dd_no13 (n : Nat) : ∀ c ∈ Lib.decDigits n, c ≠ 13 := fun c hc e => dd_no n 13 (by decide) (e ▸ hc)
def httpL : List UInt8 := [72, 84, 84, 80, 47, 49, 46, 49, 32]
/-- The first line. -/
def firstL (code : Nat) : List UInt8 := httpL ++ Lib.decDigits code ++ [32, 45]
theorem dd_three {n : Nat} (h1 : 100 ≤ n) (h2 : n < 1000) : (Lib.decDigits n).length = 3 := by
  have := dd_le 2 n (by omega)
  have := dd_ge 2 n (by omega)
  omega
theorem first_code {n : Nat} (h1 : 100 ≤ n) (h2 : n ≤ 599) : codeL (firstL n) = n := by
  have h3 := dd_three h1 (by omega)
  have hl : (firstL n).length = 14 := by unfold firstL; simp [h3, httpL]
  have ht : (firstL n).take 9 = httpL := by unfold firstL; rw [List.append_assoc]; exact List.take_left' rfl
  have hd : ((firstL n).drop 9).take 3 = Lib.decDigits n := by
    unfold firstL
    have hx : ∀ X : List UInt8, (httpL ++ X).drop 9 = X := fun _ => rfl
    rw [List.append_assoc, hx]
    exact List.take_left' h3
  unfold codeL
  rw [hl, ht, hd, number_dd, if_pos (show n < 1000000 by omega), if_pos (by decide)]
  dsimp only
  rw [if_neg (by omega)]
theorem first_noC (n : Nat) : hasC (firstL n) = false := by
  refine hasC_no13 fun c hc => ?_
  unfold firstL at hc
  rcases List.mem_append.1 hc with hc | hc
  · rcases List.mem_append.1 hc with hc | hc
    · exact (show ∀ c ∈ httpL, c ≠ 13 by decide) c hc
    · exact dd_no13 n c hc
  · exact (show ∀ c ∈ ([32, 45] : List UInt8), c ≠ 13 by decide) c hc
/-- An answer of rows, parsed. -/
theorem parse_rows {n : Nat} (h1 : 100 ≤ n) (h2 : n ≤ 599) (rs : List (List UInt8 × HL)) (b : List UInt8) (h : ∀ x ∈ rs, GoodR x) :
    parseL (firstL n ++ 13 :: 10 :: rowsT rs b) = if rs.length ≤ 8 then (match bodyL (toldL (rs.map (·.2))) b with | none => none | some (x, c) => some ⟨n, rs.map (·.2), x, c⟩) else none := by
  unfold parseL
  rw [lineL_at _ (first_noC n)]
  dsimp only
  rw [first_code h1 h2, if_neg (by omega), lines_rows rs 8 b h]
  by_cases hl : rs.length ≤ 8
  · rw [if_pos hl, if_pos hl]
    rfl
  · rw [if_neg hl, if_neg hl]
end Go.Proofs.YtfjghkmapccjhaaDoorX
