/- Arrays that are written out. Own lemmas, no program in sight. -/
import Derived.Test.YtlmmpcdjkpibcaaXF
namespace Go.Proofs.YtlmmpcdjkpibcaaX
set_option linter.unusedVariables false
set_option linter.unusedSimpArgs false
open Go Go.RowKit
variable {w0 w : World} {I : Imm} {L : Own} {P : Program} {l : Env} {ty : TypeId} {N : Nat}

/-- What the tables say of an array's making: its zero, the size of its elements. -/
def BA (P : Program) (t : TypeId) (zc : List Value) (size : Nat) : Prop :=
  (match P.info? t, P.underlying t with
   | some it, some (.array _ e) => (it.zero.map (·.cells.toList), (P.info? e).map (·.size))
   | _, _ => (none, none)) = (some zc, some size)
theorem BA.built {t : TypeId} {zc : List Value} {size : Nat} (h : BA P t zc size) {parts : List (Nat × Value)} {cells : List Value} (hf : bfill (fun i => some (i * size, size)) zc parts = some cells) : P.built t parts = some cells.toArray := by
  unfold BA at h
  unfold Program.built
  cases hi : P.info? t with
  | none => simp [hi] at h
  | some it => cases hu : P.underlying t with
    | none => simp [hi, hu] at h
    | some d =>
      simp only [hi, hu] at h
      cases d <;> simp at h
      rename_i n e
      obtain ⟨⟨z, hz, hzc⟩, ie, he, hs⟩ := h
      simp only [hz, he, hs]
      have h1 := fill_of hf
      rw [← hzc] at h1
      simpa using h1
theorem runs_buildA {t : TypeId} {parts : List (Nat × Operand)} {vs : List (Nat × Value)} {xs : List Value} {is_ : List Nat} {cells : List Value} {zc : List Value} {size : Nat} (hz : BA P t zc size) (hv : evs l (parts.map (·.2)) = some xs) (hi : parts.map (·.1) = is_) (hvs : is_.zip xs = vs) (hlen : is_.length = xs.length) (hb : bfill (fun i => some (i * size, size)) zc vs = some cells) :
    Runs P (.build t parts.toArray) ty l w (.value (.agg cells.toArray)) w := by
  subst hvs
  have h1 : (is_.zip xs).map (·.1) = is_ := List.map_fst_zip (by omega)
  have h2 : (is_.zip xs).map (·.2) = xs := List.map_snd_zip (by omega)
  exact runs_build (vs := is_.zip xs) (by rw [h2]; exact hv) (by rw [h1]; exact hi) (hz.built hb)
/-- A slice of strings. -/
def RdS (I : Imm) (v : Value) (xs : List ByteArray) : Prop := RdL I 1 v xs.length (xs.map Value.string)
def sat (xs : List ByteArray) (i : Int) : ByteArray := xs.getD i.toNat ⟨#[]⟩
theorem RdS.at {I : Imm} {v : Value} {xs : List ByteArray} {i : Int} (h : RdS I v xs) (h0 : 0 ≤ i) (h1 : i < xs.length) : I.cell? (slPtr v (i.toNat * 1)) = some (.string (sat xs i)) := by
  refine RdL.cell h ?_
  have hi : i.toNat < xs.length := by omega
  rw [Nat.mul_one, List.getElem?_map, List.getElem?_eq_getElem hi]
  unfold sat
  simp [hi]
theorem RdS.mono {I I' : Imm} {v : Value} {xs : List ByteArray} (h : RdS I v xs) (hI : I.le I') : RdS I' v xs := RdL.mono hI h
theorem sat_get {xs : List ByteArray} {k : Nat} (hk : k < xs.length) : sat xs (k : Int) = xs[k] := by
  unfold sat
  simp [hk]
end Go.Proofs.YtlmmpcdjkpibcaaX
