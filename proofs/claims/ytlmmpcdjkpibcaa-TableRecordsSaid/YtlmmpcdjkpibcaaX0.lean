/- The rules of a forward walk over an environment of temporaries: own lemmas over the model's 'wp', no program in sight. -/
import Derived.Orders
import Derived.Tactics
import Derived.KernelRfl
namespace Go.Proofs.YtlmmpcdjkpibcaaX
set_option linter.unusedVariables false
set_option linter.unusedSimpArgs false
open Go

/-! ### Environments: what is known of the temporaries -/
abbrev Env := List (Nat × Value)
def Env.get : Env → Nat → Option Value
  | [], _ => none
  | (k, v) :: r, t => bif Nat.beq k t then some v else Env.get r t
def Env.on (N : Nat) (l : Env) (a : Act) : Prop := a.tmps.size = N ∧ a.defers = [] ∧ ∀ t v, l.get t = some v → a.tmps.getD t undef = v
def ev (l : Env) : Operand → Option Value
  | .tmp t => l.get t
  | .const v => some v
  | .global g => some (.pointer (some ⟨g, 0, none⟩))
  | .func f => some (.func (.func f) #[] #[])
theorem ev_on {N : Nat} {l : Env} {a : Act} (ha : l.on N a) {x : Operand} {v : Value} (h : ev l x = some v) : a.eval x = v := by
  cases x with
  | tmp t => exact ha.2.2 t v h
  | const c => simpa [ev, Act.eval] using h
  | global g => simpa [ev, Act.eval] using h
  | func f => simpa [ev, Act.eval] using h
/-- All of l' stands in l. -/
def Env.sub : Env → Env → Prop
  | [], _ => True
  | (t, v) :: r, l => l.get t = some v ∧ Env.sub r l
theorem Env.sub_get {l' l : Env} (h : Env.sub l' l) {t : Nat} {v : Value} (ht : l'.get t = some v) : l.get t = some v := by
  induction l' with
  | nil => simp [Env.get] at ht
  | cons p r ih =>
    obtain ⟨k, u⟩ := p
    obtain ⟨h1, h2⟩ := h
    by_cases e : Nat.beq k t = true
    · simp [Env.get, e] at ht
      have : k = t := by simpa using e
      subst this; subst ht; exact h1
    · simp [Env.get, Bool.eq_false_iff.2 e] at ht
      exact ih h2 ht
theorem Env.on_sub {N : Nat} {l' l : Env} {a : Act} (h : Env.sub l' l) (ha : l.on N a) : l'.on N a :=
  ⟨ha.1, ha.2.1, fun t v ht => ha.2.2 t v (Env.sub_get h ht)⟩
theorem Env.on_put {N d : Nat} {l : Env} {a : Act} {v : Value} (hd : Nat.blt d N = true) (ha : l.on N a) : Env.on N ((d, v) :: l) (a.put (some d) v) := by
  have hd' : d < N := by simpa [Nat.blt_eq] using hd
  refine ⟨by simp [Act.put, ha.1], by simp [Act.put, ha.2.1], fun t u ht => ?_⟩
  by_cases e : d = t
  · subst e
    simp [Env.get] at ht
    subst ht
    have h1 := ha.1
    simp [Act.put, Array.getD_eq_getD_getElem?, h1, hd']
  · have hb : Nat.beq d t = false := by
      cases hh : Nat.beq d t with
      | false => rfl
      | true => exact absurd (Nat.eq_of_beq_eq_true hh) e
    simp [Env.get, hb] at ht
    have := ha.2.2 t u ht
    simp only [Act.put, Array.getD_eq_getD_getElem?] at *
    rw [Array.getElem?_setIfInBounds_ne e]
    exact this
theorem Env.on_put_none {N : Nat} {l : Env} {a : Act} {v : Value} (ha : l.on N a) : Env.on N l (a.put none v) := ha

/-! ### Judgements -/
/-- The rest of a region, from whatever frame the environment is true of. -/
def RW (P : Program) (N : Nat) (ops : Array Oper) (Q : Exit → Act → World → Prop) (rest : List Oper) (l : Env) (w : World) : Prop :=
  ∀ a, l.on N a → wpList P ops Q rest a w
/-- Code, from whatever frame the environment is true of. -/
def CW (P : Program) (N : Nat) (Q : Exit → Act → World → Prop) (c : Code) (l : Env) (w : World) : Prop := ∀ a, l.on N a → c.wp P Q a w
/-- What is asked at an exit. -/
def AQ (N : Nat) (Q : Exit → Act → World → Prop) (e : Exit) (l : Env) (w : World) : Prop := ∀ a, l.on N a → Q e a w
section
variable {P : Program} {N : Nat} {ops : Array Oper} {Q : Exit → Act → World → Prop} {rest : List Oper} {l : Env} {w : World}

theorem CW.seq {x y : Code} (h : CW P N (Exit.then (fun a w => y.wp P Q a w) Q) x l w) : CW P N Q (.seq x y) l w := fun a ha => wp_seq (h a ha)
theorem CW.skip (h : AQ N Q .normal l w) : CW P N Q .skip l w := fun a ha => wp_skip (h a ha)
theorem CW.ret (h : AQ N Q .ret l w) : CW P N Q .ret l w := fun a ha => wp_ret (h a ha)
theorem CW.exit {id : Nat} (h : AQ N Q (.exit id) l w) : CW P N Q (.exit id) l w := fun a ha => wp_exit (h a ha)
theorem CW.block {id : Nat} {c : Code} (h : CW P N (Exit.inBlock id Q) c l w) : CW P N Q (.block id c) l w := fun a ha => wp_block (h a ha)
theorem CW.cond {c : Operand} {x y : Code} {b : Bool} (hc : ev l c = some (.bool b)) (ht : b = true → CW P N Q x l w) (hf : b = false → CW P N Q y l w) :
    CW P N Q (.cond c x y) l w := fun a ha => wp_cond_split (ev_on ha hc) (fun h => ht h a ha) (fun h => hf h a ha)
theorem CW.cond_true {c : Operand} {x y : Code} (hc : ev l c = some (.bool true)) (ht : CW P N Q x l w) :
    CW P N Q (.cond c x y) l w := fun a ha => wp_cond_true (ev_on ha hc) (ht a ha)
theorem CW.cond_false {c : Operand} {x y : Code} (hc : ev l c = some (.bool false)) (ht : CW P N Q y l w) :
    CW P N Q (.cond c x y) l w := fun a ha => wp_cond_false (ev_on ha hc) (ht a ha)
theorem CW.region {id : Nat} {os : List Oper} (h : RW P N os.toArray Q os l w) : CW P N Q (.region id os.toArray false) l w :=
  fun a ha => wp_region_lit (h a ha)
/-- Less is known from here on. -/
theorem CW.weak {c : Code} {l' : Env} (hs : Env.sub l' l) (h : CW P N Q c l' w) : CW P N Q c l w := fun a ha => h a (Env.on_sub hs ha)
theorem RW.weak {l' : Env} (hs : Env.sub l' l) (h : RW P N ops Q rest l' w) : RW P N ops Q rest l w := fun a ha => h a (Env.on_sub hs ha)
theorem AQ.weak {e : Exit} {l' : Env} (hs : Env.sub l' l) (h : AQ N Q e l' w) : AQ N Q e l w := fun a ha => h a (Env.on_sub hs ha)
theorem RW.done (h : AQ N Q .normal l w) : RW P N ops Q [] l w := fun a ha => wpList_nil (h a ha)
/-- What follows code: the next one. -/
theorem AQ.next {y : Code} {Q' : Exit → Act → World → Prop} (h : CW P N Q y l w) : AQ N (Exit.then (fun a w => y.wp P Q a w) Q') .normal l w := h
theorem AQ.past_ret {K : Act → World → Prop} (h : AQ N Q .ret l w) : AQ N (Exit.then K Q) .ret l w := h
theorem AQ.past_exit {id : Nat} {K : Act → World → Prop} (h : AQ N Q (.exit id) l w) : AQ N (Exit.then K Q) (.exit id) l w := h
theorem AQ.block_normal {id : Nat} (h : AQ N Q .normal l w) : AQ N (Exit.inBlock id Q) .normal l w := h
theorem AQ.block_ret {id : Nat} (h : AQ N Q .ret l w) : AQ N (Exit.inBlock id Q) .ret l w := h
theorem AQ.block_hit {id : Nat} (h : AQ N Q .normal l w) : AQ N (Exit.inBlock id Q) (.exit id) l w := fun a ha => by
  simp only [Exit.inBlock, if_true]; exact h a ha
theorem AQ.block_miss {id id' : Nat} (hne : Nat.beq id' id = false) (h : AQ N Q (.exit id') l w) : AQ N (Exit.inBlock id Q) (.exit id') l w := fun a ha => by
  have : id' ≠ id := fun e => by subst e; simp [Nat.beq_refl] at hne
  simp only [Exit.inBlock, if_neg this]; exact h a ha

/-- A loop: X holds what changes from round to round. -/
theorem CW.loop {c : Code} (X : Type) (Inv : X → World → Prop) (env : X → Env) (μ : X → Nat) (start : ∃ x, Inv x w ∧ Env.sub (env x) l)
    (round : ∀ x w, Inv x w → CW P N (Exit.then (fun a' w' => ∃ x', Inv x' w' ∧ (env x').on N a' ∧ μ x' < μ x) Q) c (env x) w) : CW P N Q (.loop c) l w := by
  intro a ha b k cs
  have key : ∀ n x a w, μ x = n → Inv x w → (env x).on N a →
      ∃ e a' w', Q e a' w' ∧ Arrives P (lone (b.at a (.code c :: .inLoop c :: k)) cs w) b k cs e a' w' := by
    intro n
    induction n using Nat.strongRecOn with
    | _ n ih =>
      intro x a w hn hI ha
      obtain ⟨e, a₁, w₁, hq, harr⟩ := round x w hI a ha b (.inLoop c :: k) cs
      cases e with
      | normal =>
        obtain ⟨x', hI₁, ha₁, hlt⟩ := hq
        obtain ⟨e₂, a₂, w₂, hq₂, harr₂⟩ := ih (μ x') (hn ▸ hlt) x' a₁ w₁ rfl hI₁ ha₁
        exact ⟨e₂, a₂, w₂, hq₂, .of_steps (Steps.trans harr (.one step_inLoop)) harr₂⟩
      | exit id => exact ⟨_, a₁, w₁, hq, .pass (x := .inLoop c) rfl (fun _ _ => .inl (by simp)) harr⟩
      | goto l => exact ⟨_, a₁, w₁, hq, .pass (x := .inLoop c) rfl (fun _ _ => .inl (by simp)) harr⟩
      | ret => exact ⟨_, a₁, w₁, hq, .pass (x := .inLoop c) rfl (fun _ _ => .inl (by simp)) harr⟩
      | panic ch => exact ⟨_, a₁, w₁, hq, .pass (x := .inLoop c) rfl (fun _ _ => .inl (by simp)) harr⟩
      | outgrown => exact ⟨_, a₁, w₁, hq, .pass (x := .inLoop c) rfl (fun _ _ => .inl (by simp)) harr⟩
  obtain ⟨x, hI, hs⟩ := start
  obtain ⟨e, a', w', hq, harr⟩ := key _ x a w rfl hI (Env.on_sub hs ha)
  exact ⟨e, a', w', hq, .of_steps (.one step_loop) harr⟩
theorem AQ.again {X : Type} {Inv : X → World → Prop} {env : X → Env} {μ : X → Nat} {x : X} (x' : X) (h1 : Inv x' w) (h2 : Env.sub (env x') l) (h3 : μ x' < μ x) :
    AQ N (Exit.then (fun a' w' => ∃ x', Inv x' w' ∧ (env x').on N a' ∧ μ x' < μ x) Q) .normal l w := fun _ ha => ⟨x', h1, Env.on_sub h2 ha, h3⟩
def meetQ (N : Nat) (Q : Exit → Act → World → Prop) {Y : Type} (Inv : Y → World → Prop) (env : Y → Env) : Exit → Act → World → Prop
  | .normal, a', w' => ∃ y, Inv y w' ∧ (env y).on N a'
  | e, a', w' => Q e a' w'
/-- The ways through code meet again: what is known behind it is said once. -/
theorem CW.cut {c : Code} (Y : Type) (Inv : Y → World → Prop) (env : Y → Env)
    (h : CW P N (meetQ N Q Inv env) c l w)
    (hn : ∀ y w', Inv y w' → AQ N Q .normal (env y) w') : CW P N Q c l w := fun a ha =>
  wp_mono (h a ha) fun e a' w' q => by
    cases e with
    | normal => obtain ⟨y, hy, hon⟩ := q; exact hn y w' hy a' hon
    | _ => exact q
theorem AQ.meet {Y : Type} {Inv : Y → World → Prop} {env : Y → Env} (y : Y) (h1 : Inv y w) (h2 : Env.sub (env y) l) :
    AQ N (meetQ N Q Inv env) .normal l w := fun _ ha => ⟨y, h1, Env.on_sub h2 ha⟩
theorem AQ.meet_ret {Y : Type} {Inv : Y → World → Prop} {env : Y → Env} (h : AQ N Q .ret l w) :
    AQ N (meetQ N Q Inv env) .ret l w := h
theorem AQ.meet_exit {Y : Type} {Inv : Y → World → Prop} {env : Y → Env} {id : Nat} (h : AQ N Q (.exit id) l w) :
    AQ N (meetQ N Q Inv env) (.exit id) l w := h
theorem Oper.wp_mono2 {o : Oper} {a : Act} {w : World} {K K' : Act → World → Prop} {Q Q' : Exit → Act → World → Prop} (h : ∀ a w, K a w → K' a w) (hq : ∀ e a w, Q e a w → Q' e a w)
    (hh : o.wp P a w K Q) : o.wp P a w K' Q' := by
  unfold Oper.wp at *
  generalize (execOp a.eval o).run P w = r at *
  cases r with
  | ok n w' =>
    cases n <;> simp only [Oper.upon] at hh ⊢ <;>
      first
        | exact h _ _ hh
        | exact Calls.mono hh (fun e w'' he => by cases e <;> first | exact h _ _ he | exact hq _ _ _ he | exact (let ⟨a, w, q⟩ := he; ⟨a, w, hq _ _ _ q⟩))
        | exact Rows.mono hh (fun _ _ he => h _ _ he)
  | halt x w' => cases x <;> simp only [Oper.upon] at hh ⊢ <;> first | exact hq _ _ _ hh | exact hh
theorem wpList_mono2 {Q Q' : Exit → Act → World → Prop} (hq : ∀ e a w, Q e a w → Q' e a w) : ∀ (r : List Oper) (a : Act) (w : World), wpList P ops Q r a w → wpList P ops Q' r a w
  | [], _, _, h => hq _ _ _ h
  | o :: r, a, w, h => by
    unfold wpList at h ⊢
    split
    · rename_i hw
      rw [if_pos hw] at h
      exact h.imp (Oper.wp_mono2 (wpList_mono2 hq r) hq) (fun ⟨h1, a, w, q⟩ => ⟨h1, a, w, hq _ _ _ q⟩)
    · rename_i hw
      rw [if_neg hw] at h
      exact wpList_mono2 hq r _ _ h
/-- The same inside a region. -/
theorem RW.cut (Y : Type) (Inv : Y → World → Prop) (env : Y → Env)
    (h : RW P N ops (meetQ N Q Inv env) rest l w)
    (hn : ∀ y w', Inv y w' → AQ N Q .normal (env y) w') : RW P N ops Q rest l w := fun a ha =>
  wpList_mono2 (fun e a w q => by
    cases e with
    | normal => obtain ⟨y, hy, hon⟩ := q; exact hn y w hy a hon
    | _ => exact q) _ _ _ (h a ha)

/-! ### Operations -/
/-- What an operation comes to, whatever the frame, if its operands are what the environment says. -/
def Runs (P : Program) (o : Op) (ty : TypeId) (l : Env) (w : World) (n : Next) (w' : World) : Prop :=
  ∀ (ρ : Operand → Value), (∀ x v, ev l x = some v → ρ x = v) → ∀ dst pos after guard, (execOp ρ ⟨dst, o, ty, pos, after, guard⟩).run P w = .ok n w'
theorem RW.op1 {d : Tmp} {o : Op} {ty : TypeId} {pos : String} {after : Array Edge} {v : Value} {w' : World} (hd : Nat.blt d N = true)
    (hr : Runs P o ty l w (.value v) w') (h : RW P N ops Q rest ((d, v) :: l) w') : RW P N ops Q (⟨some d, o, ty, pos, after, none⟩ :: rest) l w := fun a ha =>
  wpList_plain rfl fun K hK => by
    unfold Oper.wp
    rw [hr a.eval (fun x v => ev_on ha) (some d) pos after none]
    exact hK _ _ (h _ (Env.on_put hd ha))
theorem RW.op0 {o : Op} {ty : TypeId} {pos : String} {after : Array Edge} {w' : World}
    (hr : Runs P o ty l w .skip w') (h : RW P N ops Q rest l w') : RW P N ops Q (⟨none, o, ty, pos, after, none⟩ :: rest) l w := fun a ha =>
  wpList_plain rfl fun K hK => by
    unfold Oper.wp
    rw [hr a.eval (fun x v => ev_on ha) none pos after none]
    exact hK _ _ (h _ ha)
/-- A value that nobody takes. -/
theorem RW.op0v {o : Op} {ty : TypeId} {pos : String} {after : Array Edge} {v : Value} {w' : World}
    (hr : Runs P o ty l w (.value v) w') (h : RW P N ops Q rest l w') : RW P N ops Q (⟨none, o, ty, pos, after, none⟩ :: rest) l w := fun a ha =>
  wpList_plain rfl fun K hK => by
    unfold Oper.wp
    rw [hr a.eval (fun x v => ev_on ha) none pos after none]
    exact hK _ _ (h _ ha)
theorem RW.opE {d : Tmp} {o : Op} {ty : TypeId} {pos : String} {after : Array Edge} {Φ : Value → World → Prop} (hd : Nat.blt d N = true)
    (hr : ∃ v w', Runs P o ty l w (.value v) w' ∧ Φ v w') (h : ∀ v w', Φ v w' → RW P N ops Q rest ((d, v) :: l) w') : RW P N ops Q (⟨some d, o, ty, pos, after, none⟩ :: rest) l w :=
  let ⟨_, _, h1, h2⟩ := hr; RW.op1 hd h1 (h _ _ h2)
theorem RW.opE0 {o : Op} {ty : TypeId} {pos : String} {after : Array Edge} {Φ : World → Prop}
    (hr : ∃ w', Runs P o ty l w .skip w' ∧ Φ w') (h : ∀ w', Φ w' → RW P N ops Q rest l w') : RW P N ops Q (⟨none, o, ty, pos, after, none⟩ :: rest) l w :=
  let ⟨_, h1, h2⟩ := hr; RW.op0 h1 (h _ h2)
theorem RW.opE0v {o : Op} {ty : TypeId} {pos : String} {after : Array Edge} {Φ : Value → World → Prop}
    (hr : ∃ v w', Runs P o ty l w (.value v) w' ∧ Φ v w') (h : ∀ v w', Φ v w' → RW P N ops Q rest l w') : RW P N ops Q (⟨none, o, ty, pos, after, none⟩ :: rest) l w :=
  let ⟨_, _, h1, h2⟩ := hr; RW.op0v h1 (h _ _ h2)
/-- A guarded operation: wanted, or not. g: the operation that it hangs on; t: that one's slot. -/
theorem wanted_of {l : Env} {a : Act} {N : Nat} (ha : l.on N a) {o : Oper} {g t : Nat} {want b : Bool} (hg : o.guard = some (g, want)) (ht : (ops[g]?).bind (·.dst) = some t)
    (hv : l.get t = some (.bool b)) (htN : Nat.blt t N = true) : Region.wanted o (yielded ops a.tmps) = (b == want) := by
  have hsz := ha.1
  have h1 := ha.2.2 t _ hv
  have htN' : t < a.tmps.size := by rw [hsz]; simpa [Nat.blt_eq] using htN
  have h2 : a.tmps[t]? = some (.bool b) := by
    rw [Array.getD_eq_getD_getElem?] at h1
    rw [Array.getElem?_eq_getElem htN'] at h1 ⊢
    simpa using h1
  unfold Region.wanted
  simp only [hg, yielded, ht, Option.bind_some, h2]
  cases b <;> cases want <;> rfl
theorem RW.on_guard {o : Oper} {g t : Nat} {want b : Bool} (hg : o.guard = some (g, want)) (ht : (ops[g]?).bind (·.dst) = some t) (hv : l.get t = some (.bool b)) (htN : Nat.blt t N = true) (hb : b = want)
    (h : RW P N ops Q ({ o with guard := none } :: rest) l w) : RW P N ops Q (o :: rest) l w := fun a ha => by
  have h1 := h a ha
  unfold wpList at h1 ⊢
  rw [wanted_of ha hg ht hv htN, hb]
  simp only [beq_self_eq_true, if_true]
  simp only [Region.wanted, if_true] at h1
  exact h1
theorem RW.off_guard {d g t : Nat} {o : Op} {ty : TypeId} {pos : String} {after : Array Edge} {want b : Bool} (ht : (ops[g]?).bind (·.dst) = some t) (hv : l.get t = some (.bool b)) (htN : Nat.blt t N = true) (hd : Nat.blt d N = true) (hb : b = !want)
    (h : RW P N ops Q rest ((d, undef) :: l) w) : RW P N ops Q (⟨some d, o, ty, pos, after, some (g, want)⟩ :: rest) l w := fun a ha => by
  unfold wpList
  rw [wanted_of ha rfl ht hv htN, hb]
  have : ((!want) == want) = false := by cases want <;> rfl
  rw [this]
  exact h _ (Env.on_put hd ha)
theorem RW.off_guard0 {g t : Nat} {o : Op} {ty : TypeId} {pos : String} {after : Array Edge} {want b : Bool} (ht : (ops[g]?).bind (·.dst) = some t) (hv : l.get t = some (.bool b)) (htN : Nat.blt t N = true) (hb : b = !want)
    (h : RW P N ops Q rest l w) : RW P N ops Q (⟨none, o, ty, pos, after, some (g, want)⟩ :: rest) l w := fun a ha => by
  unfold wpList
  rw [wanted_of ha rfl ht hv htN, hb]
  have : ((!want) == want) = false := by cases want <;> rfl
  rw [this]
  exact h _ ha
/-- A call of a function that has a body. -/
def Callable (P : Program) (f : FuncId) : Prop := ∃ fn, P.funcs[f]? = some fn ∧ (fn.name == "runtime.NumGoroutine") = false ∧ fn.body.isNone = false
def evs (l : Env) : List Operand → Option (List Value)
  | [] => some []
  | x :: r => match ev l x, evs l r with
    | some v, some vs => some (v :: vs)
    | _, _ => none
theorem evs_on {l : Env} {ρ : Operand → Value} (hρ : ∀ x v, ev l x = some v → ρ x = v) : ∀ {xs : List Operand} {vs : List Value}, evs l xs = some vs → xs.map ρ = vs
  | [], vs, h => by simp [evs] at h; subst h; rfl
  | x :: r, vs, h => by
    unfold evs at h
    cases h1 : ev l x with
    | none => simp [h1] at h
    | some v => cases h2 : evs l r with
      | none => simp [h1, h2] at h
      | some us =>
        simp [h1, h2] at h
        subst h
        simp [hρ x v h1, evs_on hρ h2]
theorem runs_call {f : FuncId} {fo : Operand} {args : List Operand} {ats : Array TypeId} {ty : TypeId} {vs : List Value} (hf : Callable P f) (hfo : ev l fo = some (.func (.func f) #[] #[])) (ha : evs l args = some vs) :
    Runs P (.call ⟨.value fo, args.toArray, ats⟩) ty l w (.enter f vs.toArray) w := by
  intro ρ hρ dst pos after guard
  obtain ⟨fn, h1, h2, h3⟩ := hf
  have e1 := hρ _ _ hfo
  have e2 : (args.toArray.map ρ) = vs.toArray := by rw [List.map_toArray, evs_on hρ ha]
  have h2' : ¬ fn.name = "runtime.NumGoroutine" := by simpa using h2
  have h3' : ¬ fn.body = none := by intro e; simp [e] at h3
  simp only [execOp, resolve, e1, e2]
  simp [Deferred.ofValue, invoke, callFunc, program, h1, h2', h3', Sem.run, bind, Sem.bind, pure]
theorem RW.call {d : Tmp} {f : FuncId} {fo : Operand} {args : List Operand} {ats : Array TypeId} {ty : TypeId} {pos : String} {after : Array Edge} {vs : List Value} {R : Ending → World → Prop}
    (hd : Nat.blt d N = true) (hf : Callable P f) (hfo : ev l fo = some (.func (.func f) #[] #[])) (ha : evs l args = some vs) (hc : Calls P f vs.toArray w R)
    (h : ∀ e w', R e w' → ∃ v, e = .returned v ∧ RW P N ops Q rest ((d, v) :: l) w') : RW P N ops Q (⟨some d, .call ⟨.value fo, args.toArray, ats⟩, ty, pos, after, none⟩ :: rest) l w := fun a hon =>
  wpList_plain rfl fun K hK => by
    unfold Oper.wp
    rw [runs_call hf hfo ha a.eval (fun x v => ev_on hon) (some d) pos after none]
    refine hc.mono fun e w' he => ?_
    obtain ⟨v, rfl, h2⟩ := h e w' he
    exact hK _ _ (h2 _ (Env.on_put hd hon))
/-- A call of a function without a result. -/
theorem RW.call0 {f : FuncId} {fo : Operand} {args : List Operand} {ats : Array TypeId} {ty : TypeId} {pos : String} {after : Array Edge} {vs : List Value} {R : Ending → World → Prop}
    (hf : Callable P f) (hfo : ev l fo = some (.func (.func f) #[] #[])) (ha : evs l args = some vs) (hc : Calls P f vs.toArray w R)
    (h : ∀ e w', R e w' → ∃ v, e = .returned v ∧ RW P N ops Q rest l w') : RW P N ops Q (⟨none, .call ⟨.value fo, args.toArray, ats⟩, ty, pos, after, none⟩ :: rest) l w := fun a hon =>
  wpList_plain rfl fun K hK => by
    unfold Oper.wp
    rw [runs_call hf hfo ha a.eval (fun x v => ev_on hon) none pos after none]
    refine hc.mono fun e w' he => ?_
    obtain ⟨v, rfl, h2⟩ := h e w' he
    exact hK _ _ (h2 _ hon)
/-- A function's end. -/
theorem AQ.ret1 {fn : Func} {R : Ending → World → Prop} {t : Tmp} {v : Value} (hr : fn.results = #[.tmp t]) (hv : l.get t = some v) (h : R (.returned v) w) : AQ N (bodyPost P fn R) .ret l w := fun a ha =>
  ⟨ha.2.1, v, by rw [results_tmp hr, ha.2.2 t v hv], h⟩
theorem AQ.ret2 {fn : Func} {R : Ending → World → Prop} {t u : Tmp} {v v' : Value} (hr : fn.results = #[.tmp t, .tmp u]) (hv : l.get t = some v) (hv' : l.get u = some v') (h : R (.returned (.tuple #[v, v'])) w) :
    AQ N (bodyPost P fn R) .ret l w := fun a ha =>
  ⟨ha.2.1, _, by rw [results_tmp2 hr, ha.2.2 t v hv, ha.2.2 u v' hv'], h⟩
theorem AQ.ret0 {fn : Func} {R : Ending → World → Prop} (hr : fn.results = #[]) (h : R (.returned (.tuple #[])) w) : AQ N (bodyPost P fn R) .ret l w := fun a ha =>
  ⟨ha.2.1, _, by rw [results_none hr], h⟩
theorem AQ.end0 {fn : Func} {R : Ending → World → Prop} (hr : fn.results = #[]) (h : R (.returned (.tuple #[])) w) : AQ N (bodyPost P fn R) .normal l w := fun a ha =>
  ⟨ha.2.1, _, by rw [results_none hr], h⟩
/-- A function's begin. -/
theorem enter {f : FuncId} {fn : Func} {c : Code} {args : List Value} {R : Ending → World → Prop} (hf : P.funcs[f]? = some fn) (hb : fn.body = some c) {N : Nat} (hN : fn.ntmps = N) (hle : Nat.ble args.length N = true)
    (h : CW P N (bodyPost P fn R) c (args.zipIdx.map fun p => (p.2, p.1)) w) : Calls P f args.toArray w R := by
  refine calls_of_wp hf hb (h _ ?_)
  have hle' : args.length ≤ N := by simpa using hle
  subst hN
  refine ⟨by simp; omega, rfl, fun t v ht => ?_⟩
  have key : ∀ (as : List Value) (k t : Nat) (v : Value), Env.get ((as.zipIdx k).map fun p => (p.2, p.1)) t = some v → k ≤ t ∧ as[t - k]? = some v := by
    intro as
    induction as with
    | nil => intro k t v h; simp [Env.get] at h
    | cons x r ih =>
      intro k t v h
      simp only [List.zipIdx_cons, List.map_cons, Env.get] at h
      by_cases e : k = t
      · subst e
        simp [Nat.beq_refl] at h
        subst h
        exact ⟨Nat.le_refl _, by simp⟩
      · have hb : Nat.beq k t = false := by
          cases hh : Nat.beq k t with
          | false => rfl
          | true => exact absurd (Nat.eq_of_beq_eq_true hh) e
        rw [hb] at h
        obtain ⟨h1, h2⟩ := ih (k + 1) t v h
        refine ⟨by omega, ?_⟩
        have : t - k = (t - (k + 1)) + 1 := by omega
        rw [this, List.getElem?_cons_succ]
        exact h2
  obtain ⟨_, h2⟩ := key args 0 t v ht
  simp only [Nat.sub_zero] at h2
  have hlt : t < args.length := (List.getElem?_eq_some_iff.1 h2).1
  simp only [Array.getD_eq_getD_getElem?, Array.getElem?_append, List.size_toArray, hlt, if_true, List.getElem?_toArray, h2, Option.getD_some]
end
end Go.Proofs.YtlmmpcdjkpibcaaX
