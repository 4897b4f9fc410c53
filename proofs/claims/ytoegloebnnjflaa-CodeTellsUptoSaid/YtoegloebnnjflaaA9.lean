/- The document's values: how they lie in memory. Own lemmas. -/
import Derived.Test.YtoegloebnnjflaaA8
import Derived.Test.YtoegloebnnjflaaXI
namespace Go.Proofs.YtoegloebnnjflaaX
set_option linter.unusedVariables false
set_option linter.unusedSimpArgs false
open Go Go.RowKit Go.Proofs
variable {w0 w : World} {I : Imm} {L : Own}

def refRow : AV → List Value
  | .num n => [.int .i64 1, .int .i64 n, .string ⟨#[]⟩, .bool false]
  | .txt s => [.int .i64 2, .int .i64 0, .string s, .bool false]
  | .flg t => [.int .i64 3, .int .i64 0, .string ⟨#[]⟩, .bool t]
  | .oth _ => [.int .i64 0, .int .i64 0, .string ⟨#[]⟩, .bool false]
def refKind : AV → Int
  | .num _ => 1
  | .txt _ => 2
  | .flg _ => 3
  | .oth _ => 0
theorem refRow_len (a : AV) : (refRow a).length = 4 := by cases a <;> rfl
theorem refRow_all (a : AV) : (refRow a).all Value.oneCell' = true := by cases a <;> rfl
theorem refRow_one {av : List AV} : ∀ u ∈ av.flatMap refRow, u.oneCell' = true := fun u hu => by
  obtain ⟨a, _, h⟩ := List.mem_flatMap.1 hu
  exact allOne (refRow_all a) u h
theorem refRow_0 (a : AV) : (refRow a).toArray[0]? = some (.int .i64 (refKind a)) := by cases a <;> rfl
theorem refKind_1 {a : AV} (h : refKind a = 1) : ∃ n, a = .num n := by cases a <;> first | exact ⟨_, rfl⟩ | (simp [refKind] at h; done)
theorem refKind_2 {a : AV} (h : refKind a = 2) : ∃ n, a = .txt n := by cases a <;> first | exact ⟨_, rfl⟩ | (simp [refKind] at h; done)
theorem refKind_3 {a : AV} (h : refKind a = 3) : ∃ n, a = .flg n := by cases a <;> first | exact ⟨_, rfl⟩ | (simp [refKind] at h; done)
theorem refKind_0 {a : AV} (h1 : refKind a ≠ 1) (h2 : refKind a ≠ 2) (h3 : refKind a ≠ 3) : ∃ v, a = .oth v := by cases a <;> first | exact ⟨_, rfl⟩ | exact absurd rfl h1 | exact absurd rfl h2 | exact absurd rfl h3
abbrev RdV (I : Imm) (v : Value) (av : List AV) : Prop := RdL I 4 v av.length (av.flatMap refRow)
abbrev GrowV (v : Value) (av : List AV) (Lv : Own) : Prop := Grow 55 4 v av.length (av.flatMap refRow) Lv
theorem GrowV.push {v : Value} {av : List AV} {a : AV} {Lv : Own} (h : Grow 55 4 v (av.length + 1) (av.flatMap refRow ++ refRow a) Lv) : GrowV v (av ++ [a]) Lv := by
  unfold GrowV
  rw [List.length_append, List.flatMap_append, List.flatMap_cons, List.flatMap_nil, List.append_nil]
  exact h
theorem av_take {av : List AV} {k : Nat} {a : AV} (h : av[k]? = some a) : av.take (k + 1) = av.take k ++ [a] := by rw [List.take_add_one, h]; rfl
theorem RdV.row {av : List AV} {k : Nat} {a : AV} (ha : av[k]? = some a) : ∀ (j : Nat) (u : Value), (refRow a)[j]? = some u → (av.flatMap refRow)[k * 4 + j]? = some u := by
  intro j u hj
  have h2 : j < 4 := by have := (List.getElem?_eq_some_iff.1 hj).1; rwa [refRow_len] at this
  rw [getElem?_flat refRow_len av k j h2, ha]
  exact hj
def refKs : List EK := [.i .i64, .i .i64, .s, .b]
theorem refRow_ek (a : AV) : EKs refKs (refRow a) := by cases a <;> exact ⟨rfl, rfl, rfl, rfl, trivial⟩
theorem refEM : EM Try.prog 55 refKs := EM.of (by kernel_rfl)
theorem ref_same (a : AV) : veqs (refRow a) (refRow a) = true := veqs_self (refRow_ek a)
end Go.Proofs.YtoegloebnnjflaaX
