/- Loud operations of drawn regions that hang on what was not done; the head of a frozen slice, with no room behind it. Own lemmas, no program in sight. -/
import Derived.Test.YtlmmpcdjkpibcaaXU
import Derived.Test.YtlmmpcdjkpibcaaXV
namespace Go.Proofs.YtlmmpcdjkpibcaaX
set_option linter.unusedVariables false
open Go Go.RowKit
variable {w0 w : World} {I : Imm} {L : Own} {P : Program} {l : Env} {ty : TypeId} {N : Nat} {ops : Array Oper} {F : World → Prop} {Qn : Act → World → Prop} {plan : Plan}
theorem DRW.l_undef {i d g t : Nat} {o : Op} {ty : TypeId} {pos : String} {after : Array Edge} {want : Bool} (ho : ops[i]? = some ⟨some d, o, ty, pos, after, some (g, want)⟩) (ht : (ops[g]?).bind (·.dst) = some t) (hv : l.get t = some undef) (htN : Nat.blt t N = true) (hd : Nat.blt d N = true)
    (h : DRW P N ops F Qn plan ((d, undef) :: l) w) : DRW P N ops F Qn (.l i plan) l w := fun a ha => by
  refine ⟨_, ho, ?_⟩
  rw [if_neg (by rw [wanted_undef ha rfl ht hv htN]; decide)]
  exact h _ (Env.on_put hd ha)
theorem DRV.l_undef {i d g t : Nat} {o : Op} {ty : TypeId} {pos : String} {after : Array Edge} {want : Bool} (ho : ops[i]? = some ⟨some d, o, ty, pos, after, some (g, want)⟩) (ht : (ops[g]?).bind (·.dst) = some t) (hv : l.get t = some undef) (htN : Nat.blt t N = true) (hd : Nat.blt d N = true)
    (h : DRV P N ops F Qn plan ((d, undef) :: l) w) : DRV P N ops F Qn (.l i plan) l w := fun a ha => by
  refine ⟨_, ho, ?_⟩
  rw [if_neg (by rw [wanted_undef ha rfl ht hv htN]; decide)]
  exact h _ (Env.on_put hd ha)
theorem RdL.head {size : Nat} {A : Option Addr} {n c i : Nat} {xs : List Value} (h : RdL I size (.slice A n c) n xs) (hi : i ≤ n) : RdL I size (.slice (if i = 0 then A else A.map (·.add (0 * size))) (i - 0) (i - 0)) (i - 0) (xs.take (i * size)) := by
  obtain ⟨h1, h2, A', c', e, h3, h4⟩ := h
  cases e
  rw [Nat.sub_zero]
  refine ⟨by rw [List.length_take, h1]; exact Nat.min_eq_left (Nat.mul_le_mul_right _ hi), fun u hu => h2 u (List.mem_of_mem_take hu), _, _, rfl, Nat.le_refl _, fun j u hj => ?_⟩
  rw [List.getElem?_take] at hj
  split at hj
  · rename_i hlt
    obtain ⟨a, rfl, h5⟩ := h4 j u hj
    have hi0 : i ≠ 0 := by rintro rfl; rw [Nat.zero_mul] at hlt; omega
    rw [if_neg hi0]
    refine ⟨_, rfl, ?_⟩
    rw [Addr.add_add, Nat.zero_mul, Nat.zero_add]
    exact h5
  · cases hj
end Go.Proofs.YtlmmpcdjkpibcaaX
