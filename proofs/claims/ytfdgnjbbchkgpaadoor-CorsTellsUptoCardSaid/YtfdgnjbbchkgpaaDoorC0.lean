/- Lists of words, plain headers, who may read and ask: in plain words. No program in sight. -/
import Derived.Test.YtfdgnjbbchkgpaaDoorQ2
import Derived.Test.YtfdgnjbbchkgpaaDoorXG
import Derived.Lib.SplitLaws
import Derived.Lib.SlicesS
namespace Go.Proofs.YtfdgnjbbchkgpaaDoorX
set_option linter.unusedVariables false
set_option linter.unusedSimpArgs false
open Go Go.RowKit
theorem strOfE (s : ByteArray) : strOf s.toList = s := by rw [ByteArray.toList_eq]; rfl
theorem extractE (s : ByteArray) (i j : Nat) : s.extract i j = strOf ((s.toList.drop i).take (j - i)) := by rw [← extract_list, strOfE]
theorem strOfZ (l : List UInt8) : (strOf l).size = l.length := by rw [← size_toList, strOf_toList]
theorem emptyL : (ByteArray.mk #[]).toList = [] := by rw [ByteArray.toList_eq]
theorem takeE_more {α : Type} {p : α → Prop} {xs : List α} {k : Nat} (h : ∀ x ∈ xs.take k, p x) (hk : k < xs.length) (hp : p xs[k]) : ∀ x ∈ xs.take (k + 1), p x := by
  intro x hx
  rw [List.take_add_one, List.getElem?_eq_getElem hk] at hx
  rcases List.mem_append.1 hx with hx | hx
  · exact h x hx
  · simp at hx
    subst hx
    exact hp
theorem get_getD {l : List UInt8} {k : Nat} (h : k < l.length) : l.getD k 0 = l[k] := by
  rw [List.getD_eq_getElem?_getD, List.getElem?_eq_getElem h]
  rfl
theorem strOf_append (a b : List UInt8) : strOf a ++ strOf b = strOf (a ++ b) := by
  apply ByteArray.ext
  rw [ByteArray.data_append]
  simp [strOf]
/-- The part of a text ahead of the first of some bytes, and the rest. -/
def stopK (st l : List UInt8) : Nat := l.findIdx (fun c => st.contains c)
def untilL (st l : List UInt8) : List UInt8 × List UInt8 := (l.take (stopK st l), l.drop (stopK st l))
theorem untilL_no {st l : List UInt8} (h : ∀ x ∈ l, st.contains x = false) : untilL st l = (l, []) := by
  have hk : stopK st l = l.length := by
    unfold stopK
    rw [List.findIdx_eq_length]
    intro x hx
    rw [h x hx]
  unfold untilL
  rw [hk, List.take_length, List.drop_length]
theorem stopK_at {st a b : List UInt8} {c : UInt8} (h : ∀ x ∈ a, st.contains x = false) (hc : st.contains c = true) : stopK st (a ++ c :: b) = a.length := by
  unfold stopK
  induction a with
  | nil =>
    rw [List.nil_append, List.findIdx_cons, hc]
    rfl
  | cons x r ih =>
    rw [List.cons_append, List.findIdx_cons, h x (by simp), cond_false, ih (fun y hy => h y (List.mem_cons_of_mem _ hy))]
    rfl
theorem untilL_at {st a b : List UInt8} {c : UInt8} (h : ∀ x ∈ a, st.contains x = false) (hc : st.contains c = true) : untilL st (a ++ c :: b) = (a, c :: b) := by
  unfold untilL
  rw [stopK_at h hc, List.take_left, List.drop_left]
theorem untilL_len (st l : List UInt8) : (untilL st l).1.length ≤ l.length ∧ (untilL st l).2.length ≤ l.length := by
  unfold untilL
  exact ⟨by rw [List.length_take]; omega, by rw [List.length_drop]; omega⟩
theorem untilL_get {st l : List UInt8} {k : Nat} (hk : k < l.length) (h : ∀ x ∈ l.take k, st.contains x = false) (hc : st.contains l[k] = true) : untilL st l = (l.take k, l.drop k) := by
  have e : l = l.take k ++ l[k] :: l.drop (k + 1) := by rw [← List.drop_eq_getElem_cons hk, List.take_append_drop]
  have h2 := untilL_at (b := l.drop (k + 1)) h hc
  rw [← e] at h2
  rw [h2, ← List.drop_eq_getElem_cons hk]
theorem only1 {a : List UInt8} {c : UInt8} (h : c ∉ a) : ∀ x ∈ a, [c].contains x = false := by
  intro x hx
  rw [List.contains_eq_mem, decide_eq_false_iff_not, List.mem_singleton]
  rintro rfl
  exact h hx
theorem until1_no {l : List UInt8} {c : UInt8} (h : c ∉ l) : untilL [c] l = (l, []) := untilL_no (only1 h)
theorem until1_at {a b : List UInt8} {c : UInt8} (h : c ∉ a) : untilL [c] (a ++ c :: b) = (a, c :: b) := untilL_at (only1 h) (by simp)
theorem sat_of {l : List (List UInt8)} {k : Int} (h0 : 0 ≤ k) (h1 : k < l.length) : ∃ x ∈ l, sat (l.map strOf) k = strOf x := by
  obtain ⟨j, rfl⟩ : ∃ j : Nat, k = (j : Int) := ⟨k.toNat, by omega⟩
  have hj : j < l.length := by omega
  refine ⟨l[j], List.getElem_mem hj, ?_⟩
  rw [sat_get (by rw [List.length_map]; exact hj), List.getElem_map]
def splitL : List UInt8 → List (List UInt8)
  | [] => [[]]
  | c :: r => if c = 44 then [] :: splitL r else match splitL r with | [] => [[c]] | p :: q => (c :: p) :: q
theorem splitL_no : ∀ {a : List UInt8}, (44 : UInt8) ∉ a → splitL a = [a]
  | [], _ => rfl
  | c :: r, h => by
    have h1 : c ≠ 44 := fun e => h (by rw [e]; exact List.mem_cons_self ..)
    rw [splitL, if_neg h1, splitL_no (fun hm => h (List.mem_cons_of_mem _ hm))]
theorem splitL_at : ∀ {a : List UInt8} (b : List UInt8), (44 : UInt8) ∉ a → splitL (a ++ 44 :: b) = a :: splitL b
  | [], b, _ => by rw [List.nil_append, splitL, if_pos rfl]
  | c :: r, b, h => by
    have h1 : c ≠ 44 := fun e => h (by rw [e]; exact List.mem_cons_self ..)
    rw [List.cons_append, splitL, if_neg h1, splitL_at b (fun hm => h (List.mem_cons_of_mem _ hm))]
theorem index1_at : ∀ {a : List UInt8} (b : List UInt8), (44 : UInt8) ∉ a → Lib.index (a ++ 44 :: b) [44] = a.length
  | [], b, _ => by
    rw [List.nil_append]
    unfold Lib.index
    rw [if_pos (by simp [List.isPrefixOf])]
    rfl
  | c :: r, b, h => by
    have h1 : c ≠ 44 := fun e => h (by rw [e]; exact List.mem_cons_self ..)
    have ih := index1_at (a := r) b (fun hm => h (List.mem_cons_of_mem _ hm))
    rw [List.cons_append]
    unfold Lib.index
    rw [if_neg (by simp [List.isPrefixOf, Ne.symm h1]), ih, if_neg (by rw [beq_iff_eq]; omega), List.length_cons]
    rfl
theorem splitK_law : ∀ (n : Nat) (l : List UInt8), l.length ≤ n → Lib.splitK [44] 0 (l.count 44) l = splitL l := by
  intro n
  induction n with
  | zero =>
    intro l hl
    obtain rfl : l = [] := List.eq_nil_of_length_eq_zero (by omega)
    rfl
  | succ n ih =>
    intro l hl
    by_cases h : (44 : UInt8) ∈ l
    · obtain ⟨a, b, rfl, ha⟩ := List.eq_append_cons_of_mem h
      rw [List.length_append, List.length_cons] at hl
      rw [List.count_append, List.count_cons_self, List.count_eq_zero_of_not_mem ha, Nat.zero_add, Lib.splitK, index1_at b ha, if_neg (by rw [beq_iff_eq]; omega), splitL_at b ha]
      have e1 : (a ++ 44 :: b).take (((a.length : Nat) : Int).toNat + 0) = a := by rw [Int.toNat_natCast, Nat.add_zero, List.take_left]
      have e2 : (a ++ 44 :: b).drop (((a.length : Nat) : Int).toNat + [(44 : UInt8)].length) = b := by
        rw [Int.toNat_natCast, show a.length + [(44 : UInt8)].length = (a ++ [44]).length by simp, show a ++ 44 :: b = (a ++ [44]) ++ b by simp, List.drop_left]
      rw [e1, e2, ih b (by omega)]
    · rw [List.count_eq_zero_of_not_mem h, splitL_no h]
      rfl
theorem splitL_len : ∀ (l : List UInt8), (splitL l).length ≤ l.length + 1 ∧ ∀ p ∈ splitL l, p.length ≤ l.length
  | [] => ⟨Nat.le_refl _, by intro p hp; rw [List.mem_singleton.1 hp]; exact Nat.zero_le _⟩
  | c :: r => by
    have ih := splitL_len r
    rw [splitL]
    split
    · refine ⟨by simp only [List.length_cons]; omega, fun p hp => ?_⟩
      rcases List.mem_cons.1 hp with rfl | hp
      · exact Nat.zero_le _
      · have := ih.2 p hp
        rw [List.length_cons]
        omega
    · cases hs : splitL r with
      | nil => exact ⟨by simp, by intro p hp; rw [List.mem_singleton.1 hp]; simp⟩
      | cons q t =>
        rw [hs] at ih
        refine ⟨by have := ih.1; simp only [List.length_cons] at *; omega, fun p hp => ?_⟩
        rcases List.mem_cons.1 hp with rfl | hp
        · have := ih.2 q (by simp)
          simp only [List.length_cons]
          omega
        · have := ih.2 p (List.mem_cons_of_mem _ hp)
          rw [List.length_cons]
          omega
def normL (p : List UInt8) : List UInt8 := lower (trimB p)
def keepL (p : List UInt8) : List (List UInt8) := if normL p = [] then [] else [normL p]
/-- The parts of a list. -/
def partsL (l : List UInt8) : List (List UInt8) := (splitL l).flatMap keepL
theorem partsL_no {a : List UInt8} (h : (44 : UInt8) ∉ a) : partsL a = keepL a := by
  unfold partsL
  rw [splitL_no h]
  simp
theorem partsL_at {a : List UInt8} (b : List UInt8) (h : (44 : UInt8) ∉ a) : partsL (a ++ 44 :: b) = keepL a ++ partsL b := by
  unfold partsL
  rw [splitL_at b h]
  simp
def acceptL : List UInt8 := [97, 99, 99, 101, 112, 116]
def langL : List UInt8 := [97, 99, 99, 101, 112, 116, 45, 108, 97, 110, 103]
def ctypeL : List UInt8 := [99, 111, 110, 116, 101, 110, 116, 45, 116, 121, 112, 101]
def tplainL : List UInt8 := [116, 101, 120, 116, 47, 112, 108, 97, 105, 110]
def simpleL (n v : List UInt8) : Bool := lower n == acceptL || lower n == langL || (lower n == ctypeL && normL (untilL [59] v).1 == tplainL)
def simpleR (r : ByteArray × ByteArray) : Bool := simpleL r.1.toList r.2.toList
def unsafeL (hs : List (ByteArray × ByteArray)) : List (List UInt8) := (hs.filter fun r => !simpleR r).map fun r => lower r.1.toList
def getL : List UInt8 := [71, 69, 84]
def headL : List UInt8 := [72, 69, 65, 68]
def postL : List UInt8 := [80, 79, 83, 84]
def commonL (m : List UInt8) : Bool := m == getL || m == headL || m == postL
def plainL (m : List UInt8) (hs : List (ByteArray × ByteArray)) : Bool := commonL m && decide (unsafeL hs = [])
theorem unsafe_cons (r : ByteArray × ByteArray) (hs : List (ByteArray × ByteArray)) : unsafeL (r :: hs) = if simpleR r = true then unsafeL hs else lower r.1.toList :: unsafeL hs := by
  unfold unsafeL
  rw [List.filter_cons]
  cases simpleR r <;> rfl
theorem unsafe_take {hs : List (ByteArray × ByteArray)} {k : Nat} {r : ByteArray × ByteArray} (hk : hs[k]? = some r) : unsafeL (hs.take (k + 1)) = unsafeL (hs.take k) ++ if simpleR r = true then [] else [lower r.1.toList] := by
  rw [List.take_add_one, hk]
  unfold unsafeL
  rw [List.filter_append, List.map_append]
  cases h : simpleR r <;> simp [h]
theorem unsafe_len (hs : List (ByteArray × ByteArray)) : (unsafeL hs).length ≤ hs.length := by
  unfold unsafeL
  rw [List.length_map]
  exact List.length_filter_le _ _
theorem indexC_at (c : UInt8) : ∀ {a : List UInt8} (b : List UInt8), c ∉ a → Lib.index (a ++ c :: b) [c] = a.length
  | [], b, _ => by
    rw [List.nil_append]
    unfold Lib.index
    rw [if_pos (by simp [List.isPrefixOf])]
    rfl
  | d :: r, b, h => by
    have h1 : d ≠ c := fun e => h (by rw [e]; exact List.mem_cons_self ..)
    have ih := indexC_at c (a := r) b (fun hm => h (List.mem_cons_of_mem _ hm))
    rw [List.cons_append]
    unfold Lib.index
    rw [if_neg (by simp [List.isPrefixOf, Ne.symm h1]), ih, if_neg (by rw [beq_iff_eq]; omega), List.length_cons]
    rfl
theorem indexC_no (c : UInt8) : ∀ {a : List UInt8}, c ∉ a → Lib.index a [c] = -1
  | [], _ => by simp [Lib.index]
  | d :: r, h => by
    have h1 : d ≠ c := fun e => h (by rw [e]; exact List.mem_cons_self ..)
    have ih := indexC_no c (a := r) (fun hm => h (List.mem_cons_of_mem _ hm))
    unfold Lib.index
    rw [if_neg (by simp [List.isPrefixOf, Ne.symm h1]), ih, if_pos (by decide)]
theorem cut_until (c : UInt8) (l : List UInt8) : (Lib.cut l [c]).1 = (untilL [c] l).1 := by
  unfold Lib.cut
  by_cases h : c ∈ l
  · obtain ⟨a, b, rfl, ha⟩ := List.eq_append_cons_of_mem h
    rw [indexC_at c b ha, if_pos (by omega), until1_at ha, Int.toNat_natCast]
    exact List.take_left
  · rw [indexC_no c h, if_neg (by decide), until1_no h]
end Go.Proofs.YtfdgnjbbchkgpaaDoorX
