/- The walk's own slices of texts handed to the kit's contracts for sorting and the like. Own lemmas, no program in sight. -/
import Derived.Test.YtlmmpcdjkpibcaaXG
import Derived.Shelf.Sort.Plain
import Derived.Sort.EncStr
namespace Go.Proofs.YtlmmpcdjkpibcaaX
set_option linter.unusedVariables false
set_option linter.unusedSimpArgs false
open Go Go.RowKit Go.Sort
variable {w0 w : World} {I : Imm} {L : Own}
theorem St.ahead (h : St w0 w I L) (k : Nat) : St w0 (Sort.ahead w k) I L := ⟨h.os, h.tape, h.out, h.imm, h.own, h.sep, h.nd⟩
theorem St.grownS (h : St w0 w I L) (os : Array Obj) : St w0 (Sort.grow w os) I L :=
  ⟨h.os, h.tape, h.out, fun b o hb => by show (w.heap ++ os)[b]? = _; rw [Array.getElem?_append_left (h.lt hb)]; exact h.imm b o hb,
    fun p hp => by show (w.heap ++ os)[p.1]? = _; rw [Array.getElem?_append_left (h.lt_own hp)]; exact h.own p hp, h.sep, h.nd⟩
theorem St.putRow {α : Type} [Inhabited α] {enc : α → Value} {g : Nat} {cur : Array Value} {e : TypeId} {fz : Nat × Nat} (h : St w0 w I ((g, .cells cur e fz) :: L)) (d : Array α) :
    St w0 (Sort.putRow enc w g 0 d) I ((g, .cells (Sort.putCells enc 0 d cur) e fz) :: L) := by
  have hb := h.own (g, .cells cur e fz) (by simp)
  refine h.put (k := 0) rfl rfl rfl rfl ?_ ?_
  · unfold Sort.putRow Sort.mapBlock
    simp only [Array.getElem?_modify, if_true, hb, Option.map_some, Sort.onCells]
  · intro j hj _
    unfold Sort.putRow Sort.mapBlock
    simp only [Array.getElem?_modify, if_neg (Ne.symm hj)]
/-- The cells of an own slice of texts. -/
theorem holdsS {g cap n : Nat} {e : TypeId} {ss : List (List UInt8)} {cur : Array Value} (h : St w0 w I ((g, .cells cur e) :: L)) (hl : ss.length ≤ cur.size) (hc : ∀ (j : Nat) (x : List UInt8), ss[j]? = some x → cur[j]? = some (Value.string ⟨x.toArray⟩)) :
    Holds encStr w g 0 ss.toArray := by
  intro j hj
  have hj2 : j < ss.length := by simpa using hj
  have h1 := hc j ss[j] (List.getElem?_eq_getElem hj2)
  have hb := h.own (g, .cells cur e) (by simp)
  refine ⟨?_, ?_⟩
  · have h2 := h.cell_own (k := 0) (off := 0 + j) rfl (by rw [Nat.zero_add]; exact h1)
    rw [h2]
    rw [getElem!_pos _ j hj]
    rfl
  · unfold World.frozen?
    simp only [hb]
    simp
theorem putCells_get {ss : List (List UInt8)} {cur : Array Value} (hl : ss.length ≤ cur.size) : (Sort.putCells encStr 0 ss.toArray cur).toList.take ss.length = ss.map encStr := by
  apply List.ext_getElem?
  intro i
  rw [List.getElem?_take, List.getElem?_map]
  by_cases hi : i < ss.length
  · rw [if_pos hi]
    unfold Sort.putCells
    rw [Array.toList_mapIdx, List.getElem?_mapIdx, List.getElem?_eq_getElem (by simpa using Nat.lt_of_lt_of_le hi hl), List.getElem?_eq_getElem hi]
    simp only [Option.map_some]
    rw [if_pos ⟨Nat.zero_le _, by simpa using hi⟩]
    simp [hi]
  · rw [if_neg hi, List.getElem?_eq_none (by omega)]
    rfl
theorem putCells_size {ss : List (List UInt8)} {cur : Array Value} : (Sort.putCells encStr 0 ss.toArray cur).size = cur.size := by simp [Sort.putCells]
end Go.Proofs.YtlmmpcdjkpibcaaX
