/- Calls that may panic; a frame with deferred calls. Own lemmas, no program in sight. -/
import Derived.Test.YtlmmpcdjkpibcaaXG
import Derived.Recover
namespace Go.Proofs.YtlmmpcdjkpibcaaX
set_option linter.unusedVariables false
set_option linter.unusedSimpArgs false
open Go Go.RowKit
variable {w0 w : World} {I : Imm} {L : Own} {P : Program} {l : Env} {ty : TypeId} {N : Nat}

/-! ### Panics -/
/-- What an operation comes to that panics. -/
def Falls (P : Program) (o : Op) (ty : TypeId) (l : Env) (w : World) (v : Value) (w' : World) : Prop :=
  ∀ (ρ : Operand → Value), (∀ x v, ev l x = some v → ρ x = v) → ∀ dst pos after guard, (execOp ρ ⟨dst, o, ty, pos, after, guard⟩).run P w = .halt (.panic v) w'
theorem RW.opP {ops : Array Oper} {Q : Exit → Act → World → Prop} {rest : List Oper} {d : Option Tmp} {o : Op} {pos : String} {after : Array Edge} {v : Value} {w' : World}
    (hr : Falls P o ty l w v w') (h : AQ N Q (.panic [{ v := v, recovered := false }]) l w') : RW P N ops Q (⟨d, o, ty, pos, after, none⟩ :: rest) l w := fun a ha =>
  wpList_plain rfl fun K hK => by
    unfold Oper.wp
    rw [hr a.eval (fun x v => ev_on ha) d pos after none]
    exact h _ ha
theorem AQ.past_panic {K : Act → World → Prop} {Q : Exit → Act → World → Prop} {ch : List PanicEntry} (h : AQ N Q (.panic ch) l w) : AQ N (Exit.then K Q) (.panic ch) l w := h
theorem AQ.panicked {fn : Func} {R : Ending → World → Prop} {ch : List PanicEntry} (h : R (.panicked ch) w) : AQ N (bodyPost P fn R) (.panic ch) l w := fun a ha => ⟨ha.2.1, h⟩
/-- A type assertion that does not hold. -/
theorem falls_assert {t a e : TypeId} {x : Operand} {v : Value} (ha : P.concrete a = true) (ht : P.underlying P.rt.typeAssertionError = some (.pointer e)) (hx : ev l x = some v) (hv : isIface v = true) (hb : asB a v = false) (hst : St w0 w I L) :
    ∃ p w', Falls P (.typeAssert x t a false) ty l w (.iface P.rt.typeAssertionError p) w' ∧ St w0 w' I L := by
  have hu : ∃ d, P.underlying a = some d ∧ ∀ m, d ≠ .interface m := by
    unfold Program.concrete at ha
    cases hd : P.underlying a with
    | none => simp [hd] at ha
    | some d => refine ⟨d, rfl, fun m e => ?_⟩; subst e; simp [hd] at ha
  obtain ⟨d, hd, hni⟩ := hu
  have key : ∀ (s c : Option TypeId) (m : String), ∃ p w', (runtimePanic (α := Value) (.typeAssertion s c a m)).run P w = .halt (.panic (.iface P.rt.typeAssertionError p)) w' ∧ St w0 w' I L := by
    intro s c m
    refine ⟨_, _, by simp [runtimePanic, goPanic, elemOf, newVar, newRow, run_underlying ht, go_sem]; exact ⟨rfl, rfl⟩, (hst.heap_new _).drop1⟩
  cases v with
  | nilIface =>
    obtain ⟨p, w', h1, h2⟩ := key (some t) none ""
    refine ⟨p, w', fun ρ hρ dst pos after guard => ?_, h2⟩
    have : (Instr.typeAssert .nilIface t a false).run P w = .halt (.panic (.iface P.rt.typeAssertionError p)) w' := by
      unfold Instr.typeAssert
      simp only [Sem.run_bind, run_underlying hd, Result.andThen]
      cases d <;> first | exact absurd rfl (hni _) | simpa using h1
    simp [execOp, hρ x _ hx, this, Sem.run_bind, Result.andThen]
  | iface t2 u =>
    have hne : t2 ≠ a := fun e => by subst e; simp [asB] at hb
    obtain ⟨p, w', h1, h2⟩ := key (some t) (some t2) ""
    refine ⟨p, w', fun ρ hρ dst pos after guard => ?_, h2⟩
    have : (Instr.typeAssert (.iface t2 u) t a false).run P w = .halt (.panic (.iface P.rt.typeAssertionError p)) w' := by
      unfold Instr.typeAssert
      simp only [Sem.run_bind, run_underlying hd, Result.andThen]
      cases d <;> first | exact absurd rfl (hni _) | simpa [hne] using h1
    simp [execOp, hρ x _ hx, this, Sem.run_bind, Result.andThen]
  | _ => cases hv

/-! ### A frame with deferred calls: what is known of it, and its rules -/
def Env.onD (N : Nat) (D : List Deferred) (l : Env) (a : Act) : Prop := a.tmps.size = N ∧ a.defers = D ∧ ∀ t v, l.get t = some v → a.tmps.getD t undef = v
theorem ev_onD {D : List Deferred} {a : Act} (ha : l.onD N D a) {x : Operand} {v : Value} (h : ev l x = some v) : a.eval x = v :=
  ev_on (a := { a with defers := [] }) ⟨ha.1, rfl, ha.2.2⟩ h
theorem Env.onD_put {D : List Deferred} {d : Nat} {a : Act} {v : Value} (hd : Nat.blt d N = true) (ha : l.onD N D a) : Env.onD N D ((d, v) :: l) (a.put (some d) v) := by
  have h := Env.on_put (a := { a with defers := [] }) (v := v) hd ⟨ha.1, rfl, ha.2.2⟩
  exact ⟨h.1, ha.2.1, h.2.2⟩
def RWD (P : Program) (N : Nat) (D : List Deferred) (ops : Array Oper) (Q : Exit → Act → World → Prop) (rest : List Oper) (l : Env) (w : World) : Prop := ∀ a, l.onD N D a → wpList P ops Q rest a w
def CWD (P : Program) (N : Nat) (D : List Deferred) (Q : Exit → Act → World → Prop) (c : Code) (l : Env) (w : World) : Prop := ∀ a, l.onD N D a → c.wp P Q a w
def AQD (N : Nat) (D : List Deferred) (Q : Exit → Act → World → Prop) (e : Exit) (l : Env) (w : World) : Prop := ∀ a, l.onD N D a → Q e a w
section
variable {D : List Deferred} {ops : Array Oper} {Q : Exit → Act → World → Prop} {rest : List Oper}
theorem CWD.seq {x y : Code} (h : CWD P N D (Exit.then (fun a w => y.wp P Q a w) Q) x l w) : CWD P N D Q (.seq x y) l w := fun a ha => wp_seq (h a ha)
theorem CWD.ret (h : AQD N D Q .ret l w) : CWD P N D Q .ret l w := fun a ha => wp_ret (h a ha)
theorem CWD.region {id : Nat} {os : List Oper} (h : RWD P N D os.toArray Q os l w) : CWD P N D Q (.region id os.toArray false) l w := fun a ha => wp_region_lit (h a ha)
theorem CWD.cond {c : Operand} {x y : Code} {b : Bool} (hc : ev l c = some (.bool b)) (ht : b = true → CWD P N D Q x l w) (hf : b = false → CWD P N D Q y l w) :
    CWD P N D Q (.cond c x y) l w := fun a ha => wp_cond_split (ev_onD ha hc) (fun h => ht h a ha) (fun h => hf h a ha)
theorem RWD.done (h : AQD N D Q .normal l w) : RWD P N D ops Q [] l w := fun a ha => wpList_nil (h a ha)
theorem AQD.next {y : Code} {Q' : Exit → Act → World → Prop} (h : CWD P N D Q y l w) : AQD N D (Exit.then (fun a w => y.wp P Q a w) Q') .normal l w := h
theorem AQD.past_ret {K : Act → World → Prop} (h : AQD N D Q .ret l w) : AQD N D (Exit.then K Q) .ret l w := h
theorem AQD.past_panic {K : Act → World → Prop} {ch : List PanicEntry} (h : AQD N D Q (.panic ch) l w) : AQD N D (Exit.then K Q) (.panic ch) l w := h
theorem RWD.op1 {d : Tmp} {o : Op} {pos : String} {after : Array Edge} {v : Value} {w' : World} (hd : Nat.blt d N = true)
    (hr : Runs P o ty l w (.value v) w') (h : RWD P N D ops Q rest ((d, v) :: l) w') : RWD P N D ops Q (⟨some d, o, ty, pos, after, none⟩ :: rest) l w := fun a ha =>
  wpList_plain rfl fun K hK => by
    unfold Oper.wp
    rw [hr a.eval (fun x v => ev_onD ha) (some d) pos after none]
    exact hK _ _ (h _ (Env.onD_put hd ha))
theorem RWD.op0 {o : Op} {pos : String} {after : Array Edge} {w' : World}
    (hr : Runs P o ty l w .skip w') (h : RWD P N D ops Q rest l w') : RWD P N D ops Q (⟨none, o, ty, pos, after, none⟩ :: rest) l w := fun a ha =>
  wpList_plain rfl fun K hK => by
    unfold Oper.wp
    rw [hr a.eval (fun x v => ev_onD ha) none pos after none]
    exact hK _ _ (h _ ha)
theorem RWD.opE {d : Tmp} {o : Op} {pos : String} {after : Array Edge} {Φ : Value → World → Prop} (hd : Nat.blt d N = true)
    (hr : ∃ v w', Runs P o ty l w (.value v) w' ∧ Φ v w') (h : ∀ v w', Φ v w' → RWD P N D ops Q rest ((d, v) :: l) w') : RWD P N D ops Q (⟨some d, o, ty, pos, after, none⟩ :: rest) l w :=
  let ⟨_, _, h1, h2⟩ := hr; RWD.op1 hd h1 (h _ _ h2)
theorem RWD.opE0 {o : Op} {pos : String} {after : Array Edge} {Φ : World → Prop}
    (hr : ∃ w', Runs P o ty l w .skip w' ∧ Φ w') (h : ∀ w', Φ w' → RWD P N D ops Q rest l w') : RWD P N D ops Q (⟨none, o, ty, pos, after, none⟩ :: rest) l w :=
  let ⟨_, h1, h2⟩ := hr; RWD.op0 h1 (h _ h2)
/-- A deferred call of a function value. -/
theorem RWD.defer {x : Operand} {ats : Array TypeId} {pos : String} {after : Array Edge} {fn : Fn} {first cap : Array Value} (hx : ev l x = some (.func fn first cap))
    (h : RWD P N ({ target := .fn fn cap, args := first } :: D) ops Q rest l w) : RWD P N D ops Q (⟨none, .defer ⟨.value x, #[], ats⟩, ty, pos, after, none⟩ :: rest) l w := fun a ha =>
  wpList_plain rfl fun K hK => by
    have h1 : (execOp a.eval ⟨none, .defer ⟨.value x, #[], ats⟩, ty, pos, after, none⟩).run P w = .ok (.defer { target := .fn fn cap, args := first }) w := by
      have e := ev_onD ha hx
      simp only [execOp, resolve, e, Deferred.ofValue]
      simp [go_sem]
    unfold Oper.wp
    rw [h1]
    exact hK _ _ (h _ ⟨ha.1, by simp [Act.put, ha.2.1], ha.2.2⟩)
theorem runs_makeFunc {f : FuncId} {xs : List Operand} {vs : List Value} (ha : evs l xs = some vs) : Runs P (.makeFunc (.func f) #[] xs.toArray) ty l w (.value (.func (.func f) #[] vs.toArray)) w := fun ρ hρ dst pos after guard => by
  have e2 : (xs.toArray.map ρ) = vs.toArray := by rw [List.map_toArray, evs_on hρ ha]
  simp only [execOp, e2, List.map_toArray, List.map_nil]
  rfl
/-- A call that may panic. -/
theorem RWD.call {d : Tmp} {f : FuncId} {fo : Operand} {args : List Operand} {ats : Array TypeId} {pos : String} {after : Array Edge} {vs : List Value} {R : Ending → World → Prop} (hd : Nat.blt d N = true) (hf : Callable P f)
    (hfo : ev l fo = some (.func (.func f) #[] #[])) (ha : evs l args = some vs) (hc : Calls P f vs.toArray w R)
    (h : ∀ e w', R e w' → (∃ v, e = .returned v ∧ RWD P N D ops Q rest ((d, v) :: l) w') ∨ ∃ ch, e = .panicked ch ∧ AQD N D Q (.panic ch) l w') :
    RWD P N D ops Q (⟨some d, .call ⟨.value fo, args.toArray, ats⟩, ty, pos, after, none⟩ :: rest) l w := fun a hon =>
  wpList_plain rfl fun K hK => by
    unfold Oper.wp
    rw [runs_call hf hfo ha a.eval (fun x v => ev_onD hon) (some d) pos after none]
    exact Calls.mono hc fun e w' he => by
      rcases h e w' he with ⟨v, rfl, h⟩ | ⟨ch, rfl, h⟩
      · exact hK _ _ (h _ (Env.onD_put hd hon))
      · exact h _ hon
theorem enter_on {fn : Func} {args : List Value} (hN : fn.ntmps = N) (hle : Nat.ble args.length N = true) : Env.on N (args.zipIdx.map fun p => (p.2, p.1)) { tmps := args.toArray ++ Array.replicate (fn.ntmps - args.toArray.size) undef, defers := [] } := by
  have hle' : args.length ≤ N := by simpa using hle
  subst hN
  refine ⟨by simp; omega, rfl, fun t v ht => ?_⟩
  have key : ∀ (as : List Value) (k t : Nat) (v : Value), Env.get ((as.zipIdx k).map fun p => (p.2, p.1)) t = some v → k ≤ t ∧ as[t - k]? = some v := by
    intro as
    induction as with
    | nil => intro k t v h; simp [Env.get] at h
    | cons x r ih =>
      intro k t v h
      simp only [List.zipIdx_cons, List.map_cons, Env.get] at h
      by_cases e : k = t
      · subst e
        simp [Nat.beq_refl] at h
        subst h
        exact ⟨Nat.le_refl _, by simp⟩
      · have hb : Nat.beq k t = false := by
          cases hh : Nat.beq k t with
          | false => rfl
          | true => exact absurd (Nat.eq_of_beq_eq_true hh) e
        rw [hb] at h
        obtain ⟨h1, h2⟩ := ih (k + 1) t v h
        refine ⟨by omega, ?_⟩
        have : t - k = (t - (k + 1)) + 1 := by omega
        rw [this, List.getElem?_cons_succ]
        exact h2
  obtain ⟨_, h2⟩ := key args 0 t v ht
  simp only [Nat.sub_zero] at h2
  have hlt : t < args.length := (List.getElem?_eq_some_iff.1 h2).1
  simp only [Array.getD_eq_getD_getElem?, Array.getElem?_append, List.size_toArray, hlt, if_true, List.getElem?_toArray, h2, Option.getD_some]
theorem enterD {f : FuncId} {fn : Func} {c : Code} {args : List Value} {R : Ending → World → Prop} (hf : P.funcs[f]? = some fn) (hb : fn.body = some c) (hN : fn.ntmps = N) (hle : Nat.ble args.length N = true)
    (h : CWD P N [] (bodyPostD P fn R) c (args.zipIdx.map fun p => (p.2, p.1)) w) : Calls P f args.toArray w R := by
  refine calls_of_wp_defers hf hb (h _ ?_)
  have h2 : Env.on N (args.zipIdx.map fun p => (p.2, p.1)) { tmps := args.toArray ++ Array.replicate (fn.ntmps - args.toArray.size) undef, defers := [] } := enter_on hN hle
  exact ⟨h2.1, h2.2.1, h2.2.2⟩
end
end Go.Proofs.YtlmmpcdjkpibcaaX
