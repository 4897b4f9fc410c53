/- Answers parsed, two ways the same. Plain lemmas, no program in sight. -/
import Derived.Test.YtfjghkmapccjhaaDoorK0
import Derived.Test.YtfjghkmapccjhaaDoorJ7
namespace Go.Proofs.YtfjghkmapccjhaaDoorX
set_option linter.unusedVariables false
set_option linter.unusedSimpArgs false
open Go Go.RowKit
/-- Bytes of a name; of a value. -/
def nameP (x : Int) : Prop := (65 ≤ x ∧ x ≤ 90) ∨ (97 ≤ x ∧ x ≤ 122) ∨ (48 ≤ x ∧ x ≤ 57) ∨ x = 45
instance (x : Int) : Decidable (nameP x) := by unfold nameP; infer_instance
def nmB (c : UInt8) : Bool := decide (nameP (c.toNat : Int))
def vlB (c : UInt8) : Bool := decide (32 ≤ c.toNat ∧ c.toNat ≤ 126)
def nmOk (l : List UInt8) : Bool := decide (1 ≤ l.length ∧ l.length ≤ 20) && l.all nmB
def vlOk (l : List UInt8) : Bool := decide (l.length ≤ 40) && l.all vlB
abbrev HL := List UInt8 × List UInt8
def oneL (l : List UInt8) : Option HL :=
  if (cutL l 58).2.2 = true ∧ nmOk (cutL l 58).1 = true ∧ vlOk (Lib.trimB (cutL l 58).2.1 32) = true then some ((cutL l 58).1, Lib.trimB (cutL l 58).2.1 32) else none
/-- The headers up to the empty line, at most so many more, and what is behind. -/
def linesL : Nat → List UInt8 → Option (List HL × List UInt8)
  | f, s => match lineL s with
    | none => none
    | some (l, r) => if l = [] then some ([], r) else match oneL l with
      | none => none
      | some h => match f with
        | 0 => none
        | f + 1 => (linesL f r).map fun x => (h :: x.1, x.2)
def clL : List UInt8 := [99, 111, 110, 116, 101, 110, 116, 45, 108, 101, 110, 103, 116, 104]
def isCL (l : List UInt8) : Bool := lower l == clL
def toldL (hs : List HL) : List (List UInt8) := (hs.filter fun h => isCL h.1).map (·.2)
/-- The body, and whether it is cut. -/
def bodyL (told : List (List UInt8)) (s : List UInt8) : Option (List UInt8 × Bool) := match told with
  | [] => some (s, false)
  | [d] => match numberR d with
    | none => none
    | some n => some (s.take n.toNat, decide ((s.length : Int) < n))
  | _ => none
def codeL (l : List UInt8) : Int := if decide (12 ≤ l.length) && (l.take 9 == [72, 84, 84, 80, 47, 49, 46, 49, 32]) then
    (match numberR ((l.drop 9).take 3) with
    | none => 0
    | some n => if n < 100 ∨ 599 < n then 0 else n) else 0
structure RepL where
  code : Int
  heads : List HL
  body : List UInt8
  cut : Bool
def parseL (s : List UInt8) : Option RepL := match lineL s with
  | none => none
  | some (l, r) => if codeL l = 0 then none else match linesL 8 r with
    | none => none
    | some (hs, b) => match bodyL (toldL hs) b with
      | none => none
      | some (x, c) => some ⟨codeL l, hs, x, c⟩
/-- As the document reads: the length is looked at where it stands. -/
def linesD : Nat → List UInt8 → Option Int → Option (List HL × List UInt8 × Option Int)
  | f, s, had => match lineL s with
    | none => none
    | some (l, r) => if l = [] then some ([], r, had) else match oneL l with
      | none => none
      | some h => match f with
        | 0 => none
        | f + 1 => if isCL h.1 = true then (if (numberR h.2).isSome = true ∧ had = none then (linesD f r (numberR h.2)).map fun x => (h :: x.1, x.2) else none)
          else (linesD f r had).map fun x => (h :: x.1, x.2)
theorem toldL_cons (h : HL) (hs : List HL) : toldL (h :: hs) = if isCL h.1 = true then h.2 :: toldL hs else toldL hs := by
  unfold toldL
  rw [List.filter_cons]
  split <;> rfl
theorem linesD_law : ∀ (f : Nat) (s : List UInt8) (had : Option Int), linesD f s had = match linesL f s with
    | none => none
    | some (hs, r) => match had, toldL hs with
      | had, [] => some (hs, r, had)
      | none, [d] => if (numberR d).isSome = true then some (hs, r, numberR d) else none
      | _, _ => none := by
  intro f
  induction f with
  | zero =>
    intro s had
    unfold linesD linesL
    cases lineL s with
    | none => rfl
    | some x =>
      obtain ⟨l, r⟩ := x
      dsimp only
      split
      · rfl
      · cases oneL l with
        | none => rfl
        | some h => rfl
  | succ f ih =>
    intro s had
    unfold linesD linesL
    cases lineL s with
    | none => rfl
    | some x =>
      obtain ⟨l, r⟩ := x
      dsimp only
      split
      · rfl
      · cases oneL l with
        | none => rfl
        | some h =>
          dsimp only
          by_cases hc : isCL h.1 = true
          · rw [if_pos hc]
            rw [ih]
            cases hl : linesL f r with
            | none => simp
            | some y =>
              obtain ⟨hs, b⟩ := y
              dsimp only [Option.map_some]
              rw [toldL_cons, if_pos hc]
              cases had with
              | some n => simp
              | none =>
                cases hn : numberR h.2 with
                | none =>
                  cases htl : toldL hs <;> simp [hn]
                | some n =>
                  cases htl : toldL hs with
                  | nil => simp [hn]
                  | cons d t => cases t <;> simp [hn]
          · rw [if_neg hc, ih]
            cases hl : linesL f r with
            | none => rfl
            | some y =>
              obtain ⟨hs, b⟩ := y
              dsimp only [Option.map_some]
              rw [toldL_cons, if_neg hc]
              cases had <;> cases htl : toldL hs with
              | nil => rfl
              | cons d t => cases t <;> (try rfl) <;> (dsimp only; split <;> rfl)
def parseD (s : List UInt8) : Option RepL := match lineL s with
  | none => none
  | some (l, r) => if codeL l = 0 then none else match linesD 8 r none with
    | none => none
    | some (hs, b, none) => some ⟨codeL l, hs, b, false⟩
    | some (hs, b, some n) => some ⟨codeL l, hs, b.take n.toNat, decide ((b.length : Int) < n)⟩
theorem parse_law (s : List UInt8) : parseD s = parseL s := by
  unfold parseD parseL
  cases lineL s with
  | none => rfl
  | some x =>
    obtain ⟨l, r⟩ := x
    dsimp only
    split
    · rfl
    · rw [linesD_law]
      cases linesL 8 r with
      | none => rfl
      | some y =>
        obtain ⟨hs, b⟩ := y
        dsimp only
        unfold bodyL
        cases htl : toldL hs with
        | nil => rfl
        | cons d t =>
          cases t with
          | nil =>
            dsimp only
            cases hn : numberR d <;> simp
          | cons e t => rfl
end Go.Proofs.YtfjghkmapccjhaaDoorX
