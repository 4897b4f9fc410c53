/- Calls under a guard in regions that draw. Own lemmas, no program in sight. -/
import Derived.Test.YtlmmpcdjkpibcaaX4
namespace Go.Proofs.YtlmmpcdjkpibcaaX
set_option linter.unusedVariables false
open Go Go.RowKit
variable {P : Program} {N : Nat} {ops : Array Oper} {F : World → Prop} {Qn : Act → World → Prop} {plan : Plan} {l : Env} {w : World}
theorem DRW.call_on {i d g t : Nat} {f : FuncId} {fo : Operand} {args : List Operand} {ats : Array TypeId} {ty : TypeId} {pos : String} {after : Array Edge} {vs : List Value} {R : Ending → World → Prop} {want b : Bool}
    (ho : ops[i]? = some ⟨some d, .call ⟨.value fo, args.toArray, ats⟩, ty, pos, after, some (g, want)⟩) (ht : (ops[g]?).bind (·.dst) = some t) (hv : l.get t = some (.bool b)) (htN : Nat.blt t N = true) (hb : b = want) (hd : Nat.blt d N = true) (hf : Callable P f) (hfo : ev l fo = some (.func (.func f) #[] #[])) (ha : evs l args = some vs) (hc : Calls P f vs.toArray w R)
    (h : ∀ e w', R e w' → ∃ v, e = .returned v ∧ F w' ∧ DRW P N ops F Qn plan ((d, v) :: l) w') : DRW P N ops F Qn (.l i plan) l w := fun a hon => by
  refine ⟨_, ho, ?_⟩
  rw [if_pos (by rw [wanted_of hon rfl ht hv htN, hb]; exact beq_self_eq_true _)]
  unfold Oper.wp
  rw [runs_call hf hfo ha a.eval (fun x v => ev_on hon) (some d) pos after _]
  refine hc.mono fun e w' he => ?_
  obtain ⟨v, rfl, h1, h2⟩ := h e w' he
  exact ⟨h1, h2 _ (Env.on_put hd hon)⟩
theorem DRW.opE_on {i d g t : Nat} {o : Op} {ty : TypeId} {pos : String} {after : Array Edge} {Φ : Value → World → Prop} {want b : Bool}
    (ho : ops[i]? = some ⟨some d, o, ty, pos, after, some (g, want)⟩) (ht : (ops[g]?).bind (·.dst) = some t) (hv : l.get t = some (.bool b)) (htN : Nat.blt t N = true) (hb : b = want) (hd : Nat.blt d N = true)
    (hr : ∃ v w', Runs P o ty l w (.value v) w' ∧ Φ v w') (h : ∀ v w', Φ v w' → F w' ∧ DRW P N ops F Qn plan ((d, v) :: l) w') : DRW P N ops F Qn (.l i plan) l w := fun a ha => by
  obtain ⟨v, w', h1, h2⟩ := hr
  obtain ⟨h3, h4⟩ := h v w' h2
  refine ⟨_, ho, ?_⟩
  rw [if_pos (by rw [wanted_of ha rfl ht hv htN, hb]; exact beq_self_eq_true _)]
  unfold Oper.wp
  rw [h1 a.eval (fun x v => ev_on ha) (some d) pos after _]
  exact ⟨h3, h4 _ (Env.on_put hd ha)⟩
theorem DRW.l_off {i d g t : Nat} {o : Op} {ty : TypeId} {pos : String} {after : Array Edge} {want b : Bool} (ho : ops[i]? = some ⟨some d, o, ty, pos, after, some (g, want)⟩) (ht : (ops[g]?).bind (·.dst) = some t) (hv : l.get t = some (.bool b)) (htN : Nat.blt t N = true) (hb : b = !want) (hd : Nat.blt d N = true)
    (h : DRW P N ops F Qn plan ((d, undef) :: l) w) : DRW P N ops F Qn (.l i plan) l w := fun a ha => by
  refine ⟨_, ho, ?_⟩
  rw [if_neg (by rw [wanted_of ha rfl ht hv htN, hb]; cases want <;> decide)]
  exact h _ (Env.on_put hd ha)
end Go.Proofs.YtlmmpcdjkpibcaaX
