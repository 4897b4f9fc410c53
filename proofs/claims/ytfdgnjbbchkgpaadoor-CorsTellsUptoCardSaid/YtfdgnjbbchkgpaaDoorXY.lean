/- Calls of closures. Own lemmas, no program in sight. -/
import Derived.Test.YtfdgnjbbchkgpaaDoorXH
namespace Go.Proofs.YtfdgnjbbchkgpaaDoorX
set_option linter.unusedVariables false
open Go Go.RowKit
variable {P : Program} {N : Nat} {l : Env} {w : World}
theorem runs_callC {f : FuncId} {fo : Operand} {args : List Operand} {ats : Array TypeId} {ty : TypeId} {vs cs : List Value} (hf : Callable P f) (hfo : ev l fo = some (.func (.func f) #[] cs.toArray)) (ha : evs l args = some vs) :
    Runs P (.call ⟨.value fo, args.toArray, ats⟩) ty l w (.enter f (vs ++ cs).toArray) w := by
  intro ρ hρ dst pos after guard
  obtain ⟨fn, h1, h2, h3⟩ := hf
  have e1 := hρ _ _ hfo
  have e2 : (args.toArray.map ρ) = vs.toArray := by rw [List.map_toArray, evs_on hρ ha]
  have h2' : ¬ fn.name = "runtime.NumGoroutine" := by simpa using h2
  have h3' : ¬ fn.body = none := by intro e; simp [e] at h3
  simp only [execOp, resolve, e1, e2]
  simp [Deferred.ofValue, invoke, callFunc, program, h1, h2', h3', Sem.run, bind, Sem.bind, pure]
theorem RW.callC {ops : Array Oper} {rest : List Oper} {Q : Exit → Act → World → Prop} {d : Tmp} {f : FuncId} {fo : Operand} {args : List Operand} {ats : Array TypeId} {ty : TypeId} {pos : String} {after : Array Edge} {vs cs : List Value} {R : Ending → World → Prop}
    (hd : Nat.blt d N = true) (hf : Callable P f) (hfo : ev l fo = some (.func (.func f) #[] cs.toArray)) (ha : evs l args = some vs) (hc : Calls P f (vs ++ cs).toArray w R)
    (h : ∀ e w', R e w' → ∃ v, e = .returned v ∧ RW P N ops Q rest ((d, v) :: l) w') : RW P N ops Q (⟨some d, .call ⟨.value fo, args.toArray, ats⟩, ty, pos, after, none⟩ :: rest) l w := fun a hon =>
  wpList_plain rfl fun K hK => by
    unfold Oper.wp
    rw [runs_callC hf hfo ha a.eval (fun x v => ev_on hon) (some d) pos after none]
    refine hc.mono fun e w' he => ?_
    obtain ⟨v, rfl, h2⟩ := h e w' he
    exact hK _ _ (h2 _ (Env.on_put hd hon))
end Go.Proofs.YtfdgnjbbchkgpaaDoorX
