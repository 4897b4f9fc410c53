/- Parts of a proof, joined: walks through the program's functions and their laws, in the order in which they need each other. -/
import Derived.Orders
import Derived.Tactics
import Derived.KernelRfl
import Derived.WalkKit
import Derived.Laws.OwnMore
import Derived.Laws.Rows
import Derived.WalkSpells
import Derived.WalkLawsBesides
import Derived.Laws.MakeOwn
import Derived.Laws.AppendOwn
import Derived.ArgAppend
import Derived.Still
import Derived.Lib.ConvBytes
import Derived.Laws.BytesArg
namespace Go.Proofs.YtadgbifmiooikaaGreatX
set_option linter.unusedVariables false
set_option linter.unusedSimpArgs false
open Go
theorem drop_nil_of {α : Type} {l : List α} {i : Nat} (h : l.length ≤ i) : l.drop i = [] := List.drop_eq_nil_of_le h
abbrev Env := List (Nat × Value)
def Env.get : Env → Nat → Option Value
  | [], _ => none
  | (k, v) :: r, t => bif Nat.beq k t then some v else Env.get r t
def Env.on (N : Nat) (l : Env) (a : Act) : Prop := a.tmps.size = N ∧ a.defers = [] ∧ ∀ t v, l.get t = some v → a.tmps.getD t undef = v
def ev (l : Env) : Operand → Option Value
  | .tmp t => l.get t
  | .const v => some v
  | .global g => some (.pointer (some ⟨g, 0, none⟩))
  | .func f => some (.func (.func f) #[] #[])
theorem ev_on {N : Nat} {l : Env} {a : Act} (ha : l.on N a) {x : Operand} {v : Value} (h : ev l x = some v) : a.eval x = v := by
  cases x with
  | tmp t => exact ha.2.2 t v h
  | const c => simpa [ev, Act.eval] using h
  | global g => simpa [ev, Act.eval] using h
  | func f => simpa [ev, Act.eval] using h
def Env.sub : Env → Env → Prop
  | [], _ => True
  | (t, v) :: r, l => l.get t = some v ∧ Env.sub r l
theorem Env.sub_get {l' l : Env} (h : Env.sub l' l) {t : Nat} {v : Value} (ht : l'.get t = some v) : l.get t = some v := by
  induction l' with
  | nil => simp [Env.get] at ht
  | cons p r ih =>
    obtain ⟨k, u⟩ := p; obtain ⟨h1, h2⟩ := h
    by_cases e : Nat.beq k t = true
    · simp [Env.get, e] at ht
      have : k = t := by simpa using e
      subst this; subst ht; exact h1
    · simp [Env.get, Bool.eq_false_iff.2 e] at ht
      exact ih h2 ht
theorem Env.on_sub {N : Nat} {l' l : Env} {a : Act} (h : Env.sub l' l) (ha : l.on N a) : l'.on N a :=
  ⟨ha.1, ha.2.1, fun t v ht => ha.2.2 t v (Env.sub_get h ht)⟩
theorem Env.on_put {N d : Nat} {l : Env} {a : Act} {v : Value} (hd : Nat.blt d N = true) (ha : l.on N a) : Env.on N ((d, v) :: l) (a.put (some d) v) := by
  have hd' : d < N := by simpa [Nat.blt_eq] using hd
  refine ⟨by simp [Act.put, ha.1], by simp [Act.put, ha.2.1], fun t u ht => ?_⟩
  by_cases e : d = t
  · subst e
    simp [Env.get] at ht
    subst ht; have h1 := ha.1
    simp [Act.put, Array.getD_eq_getD_getElem?, h1, hd']
  · have hb : Nat.beq d t = false := by
      cases hh : Nat.beq d t with
      | false => rfl
      | true => exact absurd (Nat.eq_of_beq_eq_true hh) e
    simp [Env.get, hb] at ht
    have := ha.2.2 t u ht
    simp only [Act.put, Array.getD_eq_getD_getElem?] at *
    rw [Array.getElem?_setIfInBounds_ne e]; exact this
def RW (P : Program) (N : Nat) (ops : Array Oper) (Q : Exit → Act → World → Prop) (rest : List Oper) (l : Env) (w : World) : Prop :=
  ∀ a, l.on N a → wpList P ops Q rest a w
def CW (P : Program) (N : Nat) (Q : Exit → Act → World → Prop) (c : Code) (l : Env) (w : World) : Prop := ∀ a, l.on N a → c.wp P Q a w
def AQ (N : Nat) (Q : Exit → Act → World → Prop) (e : Exit) (l : Env) (w : World) : Prop := ∀ a, l.on N a → Q e a w
section
variable {P : Program} {N : Nat} {ops : Array Oper} {Q : Exit → Act → World → Prop} {rest : List Oper} {l : Env} {w : World}
theorem zk {x y : Code} (h : CW P N (Exit.then (fun a w => y.wp P Q a w) Q) x l w) : CW P N Q (.seq x y) l w := fun a ha => wp_seq (h a ha)
theorem zj (h : AQ N Q .normal l w) : CW P N Q .skip l w := fun a ha => wp_skip (h a ha)
theorem CW.ret (h : AQ N Q .ret l w) : CW P N Q .ret l w := fun a ha => wp_ret (h a ha)
theorem CW.exit {id : Nat} (h : AQ N Q (.exit id) l w) : CW P N Q (.exit id) l w := fun a ha => wp_exit (h a ha)
theorem CW.block {id : Nat} {c : Code} (h : CW P N (Exit.inBlock id Q) c l w) : CW P N Q (.block id c) l w := fun a ha => wp_block (h a ha)
theorem zb {c : Operand} {x y : Code} {b : Bool} (hc : ev l c = some (.bool b)) (ht : b = true → CW P N Q x l w) (hf : b = false → CW P N Q y l w) :
    CW P N Q (.cond c x y) l w := fun a ha => wp_cond_split (ev_on ha hc) (fun h => ht h a ha) (fun h => hf h a ha)
theorem CW.cond_true {c : Operand} {x y : Code} (hc : ev l c = some (.bool true)) (ht : CW P N Q x l w) :
    CW P N Q (.cond c x y) l w := fun a ha => wp_cond_true (ev_on ha hc) (ht a ha)
theorem CW.cond_false {c : Operand} {x y : Code} (hc : ev l c = some (.bool false)) (ht : CW P N Q y l w) :
    CW P N Q (.cond c x y) l w := fun a ha => wp_cond_false (ev_on ha hc) (ht a ha)
theorem zg {id : Nat} {os : List Oper} (h : RW P N os.toArray Q os l w) : CW P N Q (.region id os.toArray false) l w :=
  fun a ha => wp_region_lit (h a ha)
theorem CW.weak {c : Code} {l' : Env} (hs : Env.sub l' l) (h : CW P N Q c l' w) : CW P N Q c l w := fun a ha => h a (Env.on_sub hs ha)
theorem RW.weak {l' : Env} (hs : Env.sub l' l) (h : RW P N ops Q rest l' w) : RW P N ops Q rest l w := fun a ha => h a (Env.on_sub hs ha)
theorem AQ.weak {e : Exit} {l' : Env} (hs : Env.sub l' l) (h : AQ N Q e l' w) : AQ N Q e l w := fun a ha => h a (Env.on_sub hs ha)
theorem zd (h : AQ N Q .normal l w) : RW P N ops Q [] l w := fun a ha => wpList_nil (h a ha)
theorem za {y : Code} {Q' : Exit → Act → World → Prop} (h : CW P N Q y l w) : AQ N (Exit.then (fun a w => y.wp P Q a w) Q') .normal l w := h
theorem zr {K : Act → World → Prop} (h : AQ N Q .ret l w) : AQ N (Exit.then K Q) .ret l w := h
theorem AQ.past_exit {id : Nat} {K : Act → World → Prop} (h : AQ N Q (.exit id) l w) : AQ N (Exit.then K Q) (.exit id) l w := h
theorem zh {id : Nat} (h : AQ N Q .normal l w) : AQ N (Exit.inBlock id Q) .normal l w := h
theorem AQ.block_ret {id : Nat} (h : AQ N Q .ret l w) : AQ N (Exit.inBlock id Q) .ret l w := h
theorem AQ.block_hit {id : Nat} (h : AQ N Q .normal l w) : AQ N (Exit.inBlock id Q) (.exit id) l w := fun a ha => by
  simp only [Exit.inBlock, if_true]; exact h a ha
theorem AQ.block_miss {id id' : Nat} (hne : Nat.beq id' id = false) (h : AQ N Q (.exit id') l w) : AQ N (Exit.inBlock id Q) (.exit id') l w := fun a ha => by
  have : id' ≠ id := fun e => by subst e; simp [Nat.beq_refl] at hne
  simp only [Exit.inBlock, if_neg this]; exact h a ha
theorem CW.loop {c : Code} (X : Type) (Inv : X → World → Prop) (env : X → Env) (μ : X → Nat) (start : ∃ x, Inv x w ∧ Env.sub (env x) l)
    (round : ∀ x w, Inv x w → CW P N (Exit.then (fun a' w' => ∃ x', Inv x' w' ∧ (env x').on N a' ∧ μ x' < μ x) Q) c (env x) w) : CW P N Q (.loop c) l w := by
  intro a ha b k cs
  have key : ∀ n x a w, μ x = n → Inv x w → (env x).on N a →
      ∃ e a' w', Q e a' w' ∧ Arrives P (lone (b.at a (.code c :: .inLoop c :: k)) cs w) b k cs e a' w' := by
    intro n
    induction n using Nat.strongRecOn with
    | _ n ih =>
      intro x a w hn hI ha; obtain ⟨e, a₁, w₁, hq, harr⟩ := round x w hI a ha b (.inLoop c :: k) cs
      cases e with
      | normal =>
        obtain ⟨x', hI₁, ha₁, hlt⟩ := hq; obtain ⟨e₂, a₂, w₂, hq₂, harr₂⟩ := ih (μ x') (hn ▸ hlt) x' a₁ w₁ rfl hI₁ ha₁; exact ⟨e₂, a₂, w₂, hq₂, .of_steps (Steps.trans harr (.one step_inLoop)) harr₂⟩
      | exit id => exact ⟨_, a₁, w₁, hq, .pass (x := .inLoop c) rfl (fun _ _ => .inl (by simp)) harr⟩
      | goto l => exact ⟨_, a₁, w₁, hq, .pass (x := .inLoop c) rfl (fun _ _ => .inl (by simp)) harr⟩
      | ret => exact ⟨_, a₁, w₁, hq, .pass (x := .inLoop c) rfl (fun _ _ => .inl (by simp)) harr⟩
      | panic ch => exact ⟨_, a₁, w₁, hq, .pass (x := .inLoop c) rfl (fun _ _ => .inl (by simp)) harr⟩
      | outgrown => exact ⟨_, a₁, w₁, hq, .pass (x := .inLoop c) rfl (fun _ _ => .inl (by simp)) harr⟩
  obtain ⟨x, hI, hs⟩ := start; obtain ⟨e, a', w', hq, harr⟩ := key _ x a w rfl hI (Env.on_sub hs ha); exact ⟨e, a', w', hq, .of_steps (.one step_loop) harr⟩
theorem AQ.again {X : Type} {Inv : X → World → Prop} {env : X → Env} {μ : X → Nat} {x : X} (x' : X) (h1 : Inv x' w) (h2 : Env.sub (env x') l) (h3 : μ x' < μ x) :
    AQ N (Exit.then (fun a' w' => ∃ x', Inv x' w' ∧ (env x').on N a' ∧ μ x' < μ x) Q) .normal l w := fun _ ha => ⟨x', h1, Env.on_sub h2 ha, h3⟩
def meetQ (N : Nat) (Q : Exit → Act → World → Prop) {Y : Type} (Inv : Y → World → Prop) (env : Y → Env) : Exit → Act → World → Prop
  | .normal, a', w' => ∃ y, Inv y w' ∧ (env y).on N a'
  | e, a', w' => Q e a' w'
theorem zX {c : Code} (Y : Type) (Inv : Y → World → Prop) (env : Y → Env)
    (h : CW P N (meetQ N Q Inv env) c l w)
    (hn : ∀ y w', Inv y w' → AQ N Q .normal (env y) w') : CW P N Q c l w := fun a ha =>
  wp_mono (h a ha) fun e a' w' q => by
    cases e with
    | normal => obtain ⟨y, hy, hon⟩ := q; exact hn y w' hy a' hon
    | _ => exact q
theorem zv {Y : Type} {Inv : Y → World → Prop} {env : Y → Env} (y : Y) (h1 : Inv y w) (h2 : Env.sub (env y) l) :
    AQ N (meetQ N Q Inv env) .normal l w := fun _ ha => ⟨y, h1, Env.on_sub h2 ha⟩
theorem AQ.meet_ret {Y : Type} {Inv : Y → World → Prop} {env : Y → Env} (h : AQ N Q .ret l w) :
    AQ N (meetQ N Q Inv env) .ret l w := h
theorem Oper.wp_mono2 {o : Oper} {a : Act} {w : World} {K K' : Act → World → Prop} {Q Q' : Exit → Act → World → Prop} (h : ∀ a w, K a w → K' a w) (hq : ∀ e a w, Q e a w → Q' e a w)
    (hh : o.wp P a w K Q) : o.wp P a w K' Q' := by
  unfold Oper.wp at *
  generalize (execOp a.eval o).run P w = r at *
  cases r with
  | ok n w' =>
    cases n <;> simp only [Oper.upon] at hh ⊢ <;>
      first
        | exact h _ _ hh
        | exact Calls.mono hh (fun e w'' he => by cases e <;> first | exact h _ _ he | exact hq _ _ _ he | exact (let ⟨a, w, q⟩ := he; ⟨a, w, hq _ _ _ q⟩))
        | exact Rows.mono hh (fun _ _ he => h _ _ he)
  | halt x w' => cases x <;> simp only [Oper.upon] at hh ⊢ <;> first | exact hq _ _ _ hh | exact hh
theorem wpList_mono2 {Q Q' : Exit → Act → World → Prop} (hq : ∀ e a w, Q e a w → Q' e a w) : ∀ (r : List Oper) (a : Act) (w : World), wpList P ops Q r a w → wpList P ops Q' r a w
  | [], _, _, h => hq _ _ _ h
  | o :: r, a, w, h => by
    unfold wpList at h ⊢
    split
    · rename_i hw
      rw [if_pos hw] at h; exact h.imp (Oper.wp_mono2 (wpList_mono2 hq r) hq) (fun ⟨h1, a, w, q⟩ => ⟨h1, a, w, hq _ _ _ q⟩)
    · rename_i hw
      rw [if_neg hw] at h; exact wpList_mono2 hq r _ _ h
theorem RW.cut (Y : Type) (Inv : Y → World → Prop) (env : Y → Env)
    (h : RW P N ops (meetQ N Q Inv env) rest l w)
    (hn : ∀ y w', Inv y w' → AQ N Q .normal (env y) w') : RW P N ops Q rest l w := fun a ha =>
  wpList_mono2 (fun e a w q => by
    cases e with
    | normal => obtain ⟨y, hy, hon⟩ := q; exact hn y w hy a hon
    | _ => exact q) _ _ _ (h a ha)
def Runs (P : Program) (o : Op) (ty : TypeId) (l : Env) (w : World) (n : Next) (w' : World) : Prop :=
  ∀ (ρ : Operand → Value), (∀ x v, ev l x = some v → ρ x = v) → ∀ dst pos after guard, (execOp ρ ⟨dst, o, ty, pos, after, guard⟩).run P w = .ok n w'
theorem z1 {d : Tmp} {o : Op} {ty : TypeId} {pos : String} {after : Array Edge} {v : Value} {w' : World} (hd : Nat.blt d N = true)
    (hr : Runs P o ty l w (.value v) w') (h : RW P N ops Q rest ((d, v) :: l) w') : RW P N ops Q (⟨some d, o, ty, pos, after, none⟩ :: rest) l w := fun a ha =>
  wpList_plain rfl fun K hK => by
    unfold Oper.wp; rw [hr a.eval (fun x v => ev_on ha) (some d) pos after none]; exact hK _ _ (h _ (Env.on_put hd ha))
theorem RW.op0 {o : Op} {ty : TypeId} {pos : String} {after : Array Edge} {w' : World}
    (hr : Runs P o ty l w .skip w') (h : RW P N ops Q rest l w') : RW P N ops Q (⟨none, o, ty, pos, after, none⟩ :: rest) l w := fun a ha =>
  wpList_plain rfl fun K hK => by
    unfold Oper.wp; rw [hr a.eval (fun x v => ev_on ha) none pos after none]; exact hK _ _ (h _ ha)
theorem RW.op0v {o : Op} {ty : TypeId} {pos : String} {after : Array Edge} {v : Value} {w' : World}
    (hr : Runs P o ty l w (.value v) w') (h : RW P N ops Q rest l w') : RW P N ops Q (⟨none, o, ty, pos, after, none⟩ :: rest) l w := fun a ha =>
  wpList_plain rfl fun K hK => by
    unfold Oper.wp; rw [hr a.eval (fun x v => ev_on ha) none pos after none]; exact hK _ _ (h _ ha)
theorem ze {d : Tmp} {o : Op} {ty : TypeId} {pos : String} {after : Array Edge} {Φ : Value → World → Prop} (hd : Nat.blt d N = true)
    (hr : ∃ v w', Runs P o ty l w (.value v) w' ∧ Φ v w') (h : ∀ v w', Φ v w' → RW P N ops Q rest ((d, v) :: l) w') : RW P N ops Q (⟨some d, o, ty, pos, after, none⟩ :: rest) l w :=
  let ⟨_, _, h1, h2⟩ := hr; z1 hd h1 (h _ _ h2)
theorem z0 {o : Op} {ty : TypeId} {pos : String} {after : Array Edge} {Φ : World → Prop}
    (hr : ∃ w', Runs P o ty l w .skip w' ∧ Φ w') (h : ∀ w', Φ w' → RW P N ops Q rest l w') : RW P N ops Q (⟨none, o, ty, pos, after, none⟩ :: rest) l w :=
  let ⟨_, h1, h2⟩ := hr; RW.op0 h1 (h _ h2)
theorem RW.opE0v {o : Op} {ty : TypeId} {pos : String} {after : Array Edge} {Φ : Value → World → Prop}
    (hr : ∃ v w', Runs P o ty l w (.value v) w' ∧ Φ v w') (h : ∀ v w', Φ v w' → RW P N ops Q rest l w') : RW P N ops Q (⟨none, o, ty, pos, after, none⟩ :: rest) l w :=
  let ⟨_, _, h1, h2⟩ := hr; RW.op0v h1 (h _ _ h2)
theorem wanted_of {l : Env} {a : Act} {N : Nat} (ha : l.on N a) {o : Oper} {g t : Nat} {want b : Bool} (hg : o.guard = some (g, want)) (ht : (ops[g]?).bind (·.dst) = some t)
    (hv : l.get t = some (.bool b)) (htN : Nat.blt t N = true) : Region.wanted o (yielded ops a.tmps) = (b == want) := by
  have hsz := ha.1; have h1 := ha.2.2 t _ hv
  have htN' : t < a.tmps.size := by rw [hsz]; simpa [Nat.blt_eq] using htN
  have h2 : a.tmps[t]? = some (.bool b) := by
    rw [Array.getD_eq_getD_getElem?] at h1; rw [Array.getElem?_eq_getElem htN'] at h1 ⊢
    simpa using h1
  unfold Region.wanted
  simp only [hg, yielded, ht, Option.bind_some, h2]
  cases b <;> cases want <;> rfl
theorem zo {o : Oper} {g t : Nat} {want b : Bool} (hg : o.guard = some (g, want)) (ht : (ops[g]?).bind (·.dst) = some t) (hv : l.get t = some (.bool b)) (htN : Nat.blt t N = true) (hb : b = want)
    (h : RW P N ops Q ({ o with guard := none } :: rest) l w) : RW P N ops Q (o :: rest) l w := fun a ha => by
  have h1 := h a ha; unfold wpList at h1 ⊢; rw [wanted_of ha hg ht hv htN, hb]
  simp only [beq_self_eq_true, if_true]
  simp only [Region.wanted, if_true] at h1
  exact h1
theorem zf {d g t : Nat} {o : Op} {ty : TypeId} {pos : String} {after : Array Edge} {want b : Bool} (ht : (ops[g]?).bind (·.dst) = some t) (hv : l.get t = some (.bool b)) (htN : Nat.blt t N = true) (hd : Nat.blt d N = true) (hb : b = !want)
    (h : RW P N ops Q rest ((d, undef) :: l) w) : RW P N ops Q (⟨some d, o, ty, pos, after, some (g, want)⟩ :: rest) l w := fun a ha => by
  unfold wpList; rw [wanted_of ha rfl ht hv htN, hb]
  have : ((!want) == want) = false := by cases want <;> rfl
  rw [this]; exact h _ (Env.on_put hd ha)
def Callable (P : Program) (f : FuncId) : Prop := ∃ fn, P.funcs[f]? = some fn ∧ (fn.name == "runtime.NumGoroutine") = false ∧ fn.body.isNone = false
def evs (l : Env) : List Operand → Option (List Value)
  | [] => some []
  | x :: r => match ev l x, evs l r with
    | some v, some vs => some (v :: vs)
    | _, _ => none
theorem evs_on {l : Env} {ρ : Operand → Value} (hρ : ∀ x v, ev l x = some v → ρ x = v) : ∀ {xs : List Operand} {vs : List Value}, evs l xs = some vs → xs.map ρ = vs
  | [], vs, h => by simp [evs] at h; subst h; rfl
  | x :: r, vs, h => by
    unfold evs at h
    cases h1 : ev l x with
    | none => simp [h1] at h
    | some v => cases h2 : evs l r with
      | none => simp [h1, h2] at h
      | some us =>
        simp [h1, h2] at h
        subst h
        simp [hρ x v h1, evs_on hρ h2]
theorem runs_call {f : FuncId} {fo : Operand} {args : List Operand} {ats : Array TypeId} {ty : TypeId} {vs : List Value} (hf : Callable P f) (hfo : ev l fo = some (.func (.func f) #[] #[])) (ha : evs l args = some vs) :
    Runs P (.call ⟨.value fo, args.toArray, ats⟩) ty l w (.enter f vs.toArray) w := by
  intro ρ hρ dst pos after guard; obtain ⟨fn, h1, h2, h3⟩ := hf; have e1 := hρ _ _ hfo
  have e2 : (args.toArray.map ρ) = vs.toArray := by rw [List.map_toArray, evs_on hρ ha]
  have h2' : ¬ fn.name = "runtime.NumGoroutine" := by simpa using h2
  have h3' : ¬ fn.body = none := by intro e; simp [e] at h3
  simp only [execOp, resolve, e1, e2]
  simp [Deferred.ofValue, invoke, callFunc, program, h1, h2', h3', Sem.run, bind, Sem.bind, pure]
theorem zK {d : Tmp} {f : FuncId} {fo : Operand} {args : List Operand} {ats : Array TypeId} {ty : TypeId} {pos : String} {after : Array Edge} {vs : List Value} {R : Ending → World → Prop}
    (hd : Nat.blt d N = true) (hf : Callable P f) (hfo : ev l fo = some (.func (.func f) #[] #[])) (ha : evs l args = some vs) (hc : Calls P f vs.toArray w R)
    (h : ∀ e w', R e w' → ∃ v, e = .returned v ∧ RW P N ops Q rest ((d, v) :: l) w') : RW P N ops Q (⟨some d, .call ⟨.value fo, args.toArray, ats⟩, ty, pos, after, none⟩ :: rest) l w := fun a hon =>
  wpList_plain rfl fun K hK => by
    unfold Oper.wp; rw [runs_call hf hfo ha a.eval (fun x v => ev_on hon) (some d) pos after none]
    refine hc.mono fun e w' he => ?_
    obtain ⟨v, rfl, h2⟩ := h e w' he; exact hK _ _ (h2 _ (Env.on_put hd hon))
theorem z9 {fn : Func} {R : Ending → World → Prop} {t : Tmp} {v : Value} (hr : fn.results = #[.tmp t]) (hv : l.get t = some v) (h : R (.returned v) w) : AQ N (bodyPost P fn R) .ret l w := fun a ha =>
  ⟨ha.2.1, v, by rw [results_tmp hr, ha.2.2 t v hv], h⟩
theorem AQ.ret2 {fn : Func} {R : Ending → World → Prop} {t u : Tmp} {v v' : Value} (hr : fn.results = #[.tmp t, .tmp u]) (hv : l.get t = some v) (hv' : l.get u = some v') (h : R (.returned (.tuple #[v, v'])) w) :
    AQ N (bodyPost P fn R) .ret l w := fun a ha =>
  ⟨ha.2.1, _, by rw [results_tmp2 hr, ha.2.2 t v hv, ha.2.2 u v' hv'], h⟩
theorem AQ.end0 {fn : Func} {R : Ending → World → Prop} (hr : fn.results = #[]) (h : R (.returned (.tuple #[])) w) : AQ N (bodyPost P fn R) .normal l w := fun a ha =>
  ⟨ha.2.1, _, by rw [results_none hr], h⟩
theorem enter {f : FuncId} {fn : Func} {c : Code} {args : List Value} {R : Ending → World → Prop} (hf : P.funcs[f]? = some fn) (hb : fn.body = some c) {N : Nat} (hN : fn.ntmps = N) (hle : Nat.ble args.length N = true)
    (h : CW P N (bodyPost P fn R) c (args.zipIdx.map fun p => (p.2, p.1)) w) : Calls P f args.toArray w R := by
  refine calls_of_wp hf hb (h _ ?_)
  have hle' : args.length ≤ N := by simpa using hle
  subst hN; refine ⟨by simp; omega, rfl, fun t v ht => ?_⟩
  have key : ∀ (asq : List Value) (k t : Nat) (v : Value), Env.get ((asq.zipIdx k).map fun p => (p.2, p.1)) t = some v → k ≤ t ∧ asq[t - k]? = some v := by
    intro asq
    induction asq with
    | nil => intro k t v h; simp [Env.get] at h
    | cons x r ih =>
      intro k t v h
      simp only [List.zipIdx_cons, List.map_cons, Env.get] at h
      by_cases e : k = t
      · subst e
        simp [Nat.beq_refl] at h
        subst h; exact ⟨Nat.le_refl _, by simp⟩
      · have hb : Nat.beq k t = false := by
          cases hh : Nat.beq k t with
          | false => rfl
          | true => exact absurd (Nat.eq_of_beq_eq_true hh) e
        rw [hb] at h; obtain ⟨h1, h2⟩ := ih (k + 1) t v h; refine ⟨by omega, ?_⟩
        have : t - k = (t - (k + 1)) + 1 := by omega
        rw [this, List.getElem?_cons_succ]; exact h2
  obtain ⟨_, h2⟩ := key args 0 t v ht
  simp only [Nat.sub_zero] at h2
  have hlt : t < args.length := (List.getElem?_eq_some_iff.1 h2).1
  simp only [Array.getD_eq_getD_getElem?, Array.getElem?_append, List.size_toArray, hlt, if_true, List.getElem?_toArray, h2, Option.getD_some]
end
end Go.Proofs.YtadgbifmiooikaaGreatX
namespace Go.Proofs.YtadgbifmiooikaaGreatX
set_option linter.unusedVariables false
set_option linter.unusedSimpArgs false
open Go Go.RowKit
abbrev Imm := Nat → Option Obj
abbrev Own := List (Nat × Obj)
def Imm.le (I I' : Imm) : Prop := ∀ b o, I b = some o → I' b = some o
theorem Imm.le.refl (I : Imm) : I.le I := fun _ _ h => h
theorem Imm.le.trans {I I' I'' : Imm} (h : I.le I') (h' : I'.le I'') : I.le I'' := fun b o hb => h' b o (h b o hb)
def Imm.cell? (I : Imm) (a : Addr) : Option Value :=
  match I a.block with
  | some (.cells c _ _) => if a.spot.isSome then none else c[a.off]?
  | _ => none
theorem Imm.le.cell {I I' : Imm} (h : I.le I') {a : Addr} {v : Value} (hc : I.cell? a = some v) : I'.cell? a = some v := by
  unfold Imm.cell? at hc ⊢
  cases hb : I a.block with
  | none => simp [hb] at hc
  | some o => rw [h _ _ hb]; rw [hb] at hc; exact hc
structure St (w0 w : World) (I : Imm) (L : Own) : Prop where
  os : w.os = w0.os
  tape : w.tape = w0.tape
  out : w.output = w0.output
  imm : ∀ b o, I b = some o → w.heap[b]? = some o
  own : ∀ p ∈ L, w.heap[p.1]? = some p.2
  sep : ∀ p ∈ L, I p.1 = none
  nd : (L.map (·.1)).Nodup
variable {w0 w : World} {I : Imm} {L : Own}
theorem St.draw (h : St w0 w I L) : St w0 { w with drawn := w.drawn + 1 } I L := ⟨h.os, h.tape, h.out, h.imm, h.own, h.sep, h.nd⟩
theorem St.lt (h : St w0 w I L) {b : Nat} {o : Obj} (hb : I b = some o) : b < w.heap.size := (Array.getElem?_eq_some_iff.1 (h.imm b o hb)).1
theorem St.lt_own (h : St w0 w I L) {p : Nat × Obj} (hp : p ∈ L) : p.1 < w.heap.size := (Array.getElem?_eq_some_iff.1 (h.own p hp)).1
theorem St.perm (h : St w0 w I L) {L' : Own} (hp : L.Perm L') : St w0 w I L' :=
  ⟨h.os, h.tape, h.out, h.imm, fun p hm => h.own p (hp.mem_iff.2 hm), fun p hm => h.sep p (hp.mem_iff.2 hm), (hp.map (·.1)).nodup_iff.1 h.nd⟩
theorem St.sub (h : St w0 w I L) {L' : Own} (hp : L'.Sublist L) : St w0 w I L' :=
  ⟨h.os, h.tape, h.out, h.imm, fun p hm => h.own p (hp.mem hm), fun p hm => h.sep p (hp.mem hm), h.nd.sublist (hp.map _)⟩
theorem St.drop1 {p : Nat × Obj} (h : St w0 w I (p :: L)) : St w0 w I L := h.sub (List.sublist_cons_self _ _)
def Imm.add (I : Imm) (b : Nat) (o : Obj) : Imm := fun k => if k = b then some o else I k
theorem Imm.add_at (I : Imm) (b : Nat) (o : Obj) : I.add b o b = some o := by simp [Imm.add]
theorem St.freeze {b : Nat} {o : Obj} (h : St w0 w I ((b, o) :: L)) : St w0 w (I.add b o) L ∧ I.le (I.add b o) := by
  have hn : I b = none := h.sep (b, o) (by simp)
  have hne : ∀ p ∈ L, p.1 ≠ b := fun p hp e => by
    have := h.nd
    simp only [List.map_cons, List.nodup_cons, List.mem_map, not_exists, not_and] at this
    exact this.1 p hp e
  refine ⟨⟨h.os, h.tape, h.out, fun k o' hk => ?_, fun p hp => h.own p (List.mem_cons_of_mem _ hp), fun p hp => ?_, ?_⟩, fun k o' hk => ?_⟩
  · unfold Imm.add at hk
    split at hk
    · rename_i e; subst e; cases hk; exact h.own (k, o) (List.mem_cons_self ..)
    · exact h.imm _ _ hk
  · unfold Imm.add; rw [if_neg (hne p hp)]; exact h.sep p (List.mem_cons_of_mem _ hp)
  · have := h.nd
    simp only [List.map_cons, List.nodup_cons] at this
    exact this.2
  · unfold Imm.add; rw [if_neg (fun e => by subst e; rw [hn] at hk; cases hk)]; exact hk
theorem St.heap_new (h : St w0 w I L) (o : Obj) : St w0 (w.alloc o) I ((w.heap.size, o) :: L) := by
  have hk : ∀ k, k < w.heap.size → (w.alloc o).heap[k]? = w.heap[k]? := fun k hk => Below.heap_alloc _ _ _ hk
  refine ⟨h.os, h.tape, h.out, fun b o' hb => by rw [hk b (h.lt hb)]; exact h.imm b o' hb, fun p hp => ?_, fun p hp => ?_, ?_⟩
  · rcases List.mem_cons.1 hp with rfl | hp
    · show (w.heap.push o)[w.heap.size]? = some o
      exact Array.getElem?_push_size
    · rw [hk _ (h.lt_own hp)]; exact h.own p hp
  · rcases List.mem_cons.1 hp with rfl | hp
    · cases e : I w.heap.size with
      | none => rfl
      | some o' => exact absurd (h.lt e) (Nat.lt_irrefl _)
    · exact h.sep p hp
  · simp only [List.map_cons, List.nodup_cons]
    refine ⟨fun hm => ?_, h.nd⟩; obtain ⟨p, hp, he⟩ := List.mem_map.1 hm; have := h.lt_own hp; omega
theorem St.drewN (h : St w0 w I L) : St w0 w.drew I L := ⟨h.os, h.tape, h.out, h.imm, h.own, h.sep, h.nd⟩
theorem St.put (h : St w0 w I L) {k : Nat} {b : Nat} {o o' : Obj} {w' : World} (hL : L[k]? = some (b, o)) (hos : w'.os = w.os) (ht : w'.tape = w.tape) (hout : w'.output = w.output)
    (hb : w'.heap[b]? = some o') (hr : ∀ j, j ≠ b → j < w.heap.size → w'.heap[j]? = w.heap[j]?) : St w0 w' I (L.set k (b, o')) := by
  have hm : (b, o) ∈ L := List.mem_of_getElem? hL; have hbn := h.sep _ hm; obtain ⟨hk, hLk⟩ := List.getElem?_eq_some_iff.1 hL
  have hmap : (L.set k (b, o')).map (·.1) = L.map (·.1) := by
    rw [List.map_set]
    have : (L.map (·.1))[k]? = some b := by rw [List.getElem?_map, hL]; rfl
    obtain ⟨hk', e⟩ := List.getElem?_eq_some_iff.1 this
    show (L.map (·.1)).set k b = _
    rw [← e, List.set_getElem_self]
  have hother : ∀ j (p : Nat × Obj), j ≠ k → L[j]? = some p → p.1 ≠ b := fun j p hj hp e => by
    have h1 : (L.map (·.1))[k]? = some b := by rw [List.getElem?_map, hL]; rfl
    have h2 : (L.map (·.1))[j]? = some b := by rw [List.getElem?_map, hp, ← e]; rfl
    have hjl := (List.getElem?_eq_some_iff.1 h2).1; exact hj ((List.getElem?_inj hjl h.nd).1 (by rw [h1, h2]))
  have mem : ∀ p ∈ L.set k (b, o'), p = (b, o') ∨ (p ∈ L ∧ p.1 ≠ b) := fun p hp => by
    obtain ⟨j, hj⟩ := List.getElem?_of_mem hp; rw [List.getElem?_set] at hj
    split at hj
    · exact Or.inl (Option.some.inj hj).symm
    · rename_i e
      exact Or.inr ⟨List.mem_of_getElem? hj, hother j p (fun e' => e e'.symm) hj⟩
  refine ⟨hos.trans h.os, ht.trans h.tape, hout.trans h.out, fun j oj hj => ?_, fun p hp => ?_, fun p hp => ?_, ?_⟩
  · have hne : j ≠ b := fun e => by subst e; rw [hbn] at hj; cases hj
    rw [hr j hne (h.lt hj)]; exact h.imm j oj hj
  · rcases mem p hp with rfl | ⟨hp', hne⟩
    · exact hb
    · rw [hr _ hne (h.lt_own hp')]; exact h.own p hp'
  · rcases mem p hp with rfl | ⟨hp', _⟩
    · exact hbn
    · exact h.sep p hp'
  · rw [hmap]; exact h.nd
theorem St.cell_imm (h : St w0 w I L) {a : Addr} {v : Value} (hc : I.cell? a = some v) : w.cell? a = some v := by
  unfold Imm.cell? at hc; unfold World.cell?
  cases hb : I a.block with
  | none => simp [hb] at hc
  | some o => rw [h.imm _ _ hb]; rw [hb] at hc; exact hc
theorem St.cell_own (h : St w0 w I L) {k b off : Nat} {cs : Array Value} {T : TypeId} {fz : Nat × Nat} {v : Value} (hL : L[k]? = some (b, .cells cs T fz)) (hi : cs[off]? = some v) : w.cell? ⟨b, off, none⟩ = some v := by
  unfold World.cell?; rw [h.own (b, .cells cs T fz) (List.mem_of_getElem? hL)]
  simpa using hi
def isScalar (P : Program) (T : TypeId) : Bool := match P.underlying T with
  | some (.struct _) => false
  | some (.array _ _) => false
  | some _ => true
  | none => false
def isAggT (P : Program) (T : TypeId) : Bool := match P.underlying T with
  | some (.struct _) => true
  | some (.array _ _) => true
  | _ => false
def TI (P : Program) (T : TypeId) (z : Value) (size bytes : Nat) : Prop := (P.info? T).map (fun i => (i.zero, i.size, i.bytes)) = some (some z, size, bytes)
theorem TI.get {P : Program} {T : TypeId} {z : Value} {size bytes : Nat} (h : TI P T z size bytes) : ∃ i, P.info? T = some i ∧ i.zero = some z ∧ i.size = size ∧ i.bytes = bytes := by
  unfold TI at h
  cases hi : P.info? T with
  | none => simp [hi] at h
  | some i => simp [hi] at h; exact ⟨i, rfl, h.1, h.2.1, h.2.2⟩
theorem TI.run_size {P : Program} {T : TypeId} {z : Value} {size bytes : Nat} (h : TI P T z size bytes) (w : World) : (sizeOf T).run P w = .ok size w := by
  obtain ⟨i, h1, _, h3, _⟩ := h.get; rw [run_sizeOf w h1]
  simp [Program.cellsOf, h1, h3]
theorem TI.run_zero {P : Program} {T : TypeId} {z : Value} {size bytes : Nat} (h : TI P T z size bytes) (w : World) : (zeroValue T).run P w = .ok z w := by
  obtain ⟨i, h1, h2, _, _⟩ := h.get; unfold zeroValue
  simp [Sem.run_bind, run_typeInfo w h1, h2, Result.andThen]
section
variable {P : Program} {l : Env} {ty : TypeId}
theorem Runs.of {o : Op} {v : Value} {w' : World} (S : (Operand → Value) → Sem Value) (h1 : ∀ ρ dst pos after guard, execOp ρ ⟨dst, o, ty, pos, after, guard⟩ = (do pure (.value (← S ρ))))
    (h2 : ∀ ρ, (∀ x v, ev l x = some v → ρ x = v) → (S ρ).run P w = .ok v w') : Runs P o ty l w (.value v) w' := fun ρ hρ dst pos after guard => by
  rw [h1]; simp [go_sem, h2 ρ hρ]
theorem Runs.ofU {o : Op} {w' : World} (S : (Operand → Value) → Sem Unit) (h1 : ∀ ρ dst pos after guard, execOp ρ ⟨dst, o, ty, pos, after, guard⟩ = (do S ρ; pure .skip))
    (h2 : ∀ ρ, (∀ x v, ev l x = some v → ρ x = v) → (S ρ).run P w = .ok () w') : Runs P o ty l w .skip w' := fun ρ hρ dst pos after guard => by
  rw [h1]; simp [go_sem, h2 ρ hρ]
theorem runs_move {x : Operand} {v : Value} (h : ev l x = some v) : Runs P (.move x) ty l w (.value v) w := fun ρ hρ _ _ _ _ => by
  simp [execOp, hρ x v h, pure]
theorem runs_assign {x : Operand} {v : Value} (h : ev l x = some v) : Runs P (.assign x) ty l w (.value v) w := fun ρ hρ _ _ _ _ => by
  simp [execOp, hρ x v h, pure]
theorem runs_pick_true {c x y : Operand} {b : Bool} {v : Value} (hc : ev l c = some (.bool b)) (hb : b = true) (hx : ev l x = some v) :
    Runs P (.pick c x y) ty l w (.value v) w := fun ρ hρ _ _ _ _ => by
  subst hb
  simp [execOp, hρ c _ hc, hρ x _ hx, asBool, pure, Bind.bind, Sem.bind]
theorem runs_pick_false {c x y : Operand} {b : Bool} {v : Value} (hc : ev l c = some (.bool b)) (hb : b = false) (hx : ev l y = some v) :
    Runs P (.pick c x y) ty l w (.value v) w := fun ρ hρ _ _ _ _ => by
  subst hb
  simp [execOp, hρ c _ hc, hρ y _ hx, asBool, pure, Bind.bind, Sem.bind]
theorem runs_nilCheck {x : Operand} {a : Addr} (h : ev l x = some (.pointer (some a))) : Runs P (.nilCheck x) ty l w (.value (.pointer (some a))) w := fun ρ hρ _ _ _ _ => by
  simp [execOp, hρ x _ h, pure]
theorem runs_extract {x : Operand} {k : Nat} {vs : List Value} {v : Value} (h : ev l x = some (.tuple vs.toArray)) (hk : vs[k]? = some v) : Runs P (.extract x k) ty l w (.value v) w :=
  .of (fun ρ => Instr.extract (ρ x) k) (fun _ _ _ _ _ => rfl) fun ρ hρ => by simp [hρ x _ h, Instr.extract, hk, go_sem]
theorem runs_fieldAddr {x : Operand} {s f : Nat} {a : Addr} {fields : Array Field} {fd : Field} {z : Value} {size bytes : Nat} (h : ev l x = some (.pointer (some a))) (hs : P.underlying s = some (.struct fields)) (hf : fields[f]? = some fd)
    (ht : TI P fd.type z size bytes) (hz : size ≠ 0) : Runs P (.fieldAddr s x f) ty l w (.value (.pointer (some (a.add fd.offset)))) w :=
  .of (fun ρ => Instr.fieldAt s (ρ x) f) (fun _ _ _ _ _ => rfl) fun ρ hρ => by
    simp [hρ x _ h, Instr.fieldAt, go_sem, run_underlying hs, hf, Instr.sureAddr, fieldPlace, ht.run_size, hz]
theorem runs_load1 {x : Operand} {T : TypeId} {a : Addr} {v : Value} (hT : isScalar P T = true) (h : ev l x = some (.pointer (some a))) (hc : w.cell? a = some v) : Runs P (.load T x) ty l w (.value v) w :=
  .of (fun ρ => Instr.loadAt T (ρ x)) (fun _ _ _ _ _ => rfl) fun ρ hρ => by
    unfold isScalar at hT
    have : ∃ d, P.underlying T = some d ∧ (∀ fs, d ≠ .struct fs) ∧ (∀ n e, d ≠ .array n e) := by
      cases hu : P.underlying T with
      | none => simp [hu] at hT
      | some d => rw [hu] at hT; exact ⟨d, rfl, fun fs e => by subst e; simp at hT, fun n k e => by subst e; simp at hT⟩
    obtain ⟨d, hd, h1, h2⟩ := this
    have h3 : (isAgg T).run P w = .ok false w := by
      unfold isAgg
      cases d <;> first | exact absurd rfl (h1 _) | exact absurd rfl (h2 _ _) | simp [go_sem, run_underlying hd]
    simp [hρ x _ h, Instr.loadAt, go_sem, Instr.sureAddr, loadVar, h3, load, Sem.run, hc]
theorem run_isAgg {T : TypeId} (hT : isAggT P T = true) : (isAgg T).run P w = .ok true w := by
  unfold isAggT at hT; unfold isAgg
  cases hu : P.underlying T with
  | none => simp [hu] at hT
  | some d => rw [hu] at hT; cases d <;> simp at hT <;> simp [go_sem, run_underlying hu]
theorem runs_loadA {x : Operand} {T : TypeId} {a : Addr} {vs : List Value} {z : Value} {bytes : Nat} (hT : isAggT P T = true) (ht : TI P T z vs.length bytes) (h : ev l x = some (.pointer (some a)))
    (hc : ∀ j v, vs[j]? = some v → w.cell? (a.add j) = some v) : Runs P (.load T x) ty l w (.value (.agg vs.toArray)) w :=
  .of (fun ρ => Instr.loadAt T (ρ x)) (fun _ _ _ _ _ => rfl) fun ρ hρ => by
    have := run_loadCells_list (P := P) w a vs hc; unfold loadCells at this
    simp [hρ x _ h, Instr.loadAt, go_sem, Instr.sureAddr, loadVar, run_isAgg hT, ht.run_size, this]
theorem St.cells_own (h : St w0 w I L) {k b off : Nat} {cs : Array Value} {T : TypeId} {fz : Nat × Nat} {vs : List Value} (hL : L[k]? = some (b, .cells cs T fz)) (hv : (cs.toList.drop off).take vs.length = vs) :
    ∀ j v, vs[j]? = some v → w.cell? ((⟨b, off, none⟩ : Addr).add j) = some v := fun j v hj => by
  have h1 : ((⟨b, off, none⟩ : Addr).add j) = ⟨b, off + j, none⟩ := by unfold Addr.add; split <;> simp_all
  rw [h1]; refine h.cell_own hL ?_; have hjl : j < vs.length := (List.getElem?_eq_some_iff.1 hj).1; rw [← hv, List.getElem?_take, if_pos hjl, List.getElem?_drop] at hj
  simpa using hj
theorem runs_alloc {T : TypeId} {z : Value} {size bytes : Nat} (ht : TI P T z size bytes) (hst : St w0 w I L) :
    ∃ v w', Runs P (.alloc T) ty l w (.value v) w' ∧ ∃ b, v = .pointer (some ⟨b, 0, none⟩) ∧ St w0 w' I ((b, .cells z.cells T) :: L) :=
  ⟨_, _, .of (fun _ => Instr.alloc T true (.tuple #[])) (fun _ _ _ _ _ => rfl) fun ρ hρ => by
    simp [Instr.alloc, go_sem, ht.run_zero, newVar, newRow, newObj]; rfl, _, rfl, hst.heap_new _⟩
theorem runs_box {T : TypeId} {x : Operand} {v : Value} (h : ev l x = some v) (hst : St w0 w I L) :
    ∃ u w', Runs P (.box T x) ty l w (.value u) w' ∧ ∃ b, u = .pointer (some ⟨b, 0, none⟩) ∧ St w0 w' I ((b, .cells v.cells T) :: L) :=
  ⟨_, _, .of (fun ρ => Instr.box T (ρ x)) (fun _ _ _ _ _ => rfl) fun ρ hρ => by
    simp [Instr.box, go_sem, hρ x v h, newVar, newRow, newObj]; rfl, _, rfl, hst.heap_new _⟩
theorem World.heap_setCell_at {w : World} {b off : Nat} {cs : Array Value} {T : TypeId} {fz : Nat × Nat} {v : Value} (h : w.heap[b]? = some (.cells cs T fz)) : (w.setCell ⟨b, off, none⟩ v).heap[b]? = some (.cells (cs.setIfInBounds off v) T fz) := by
  simp [World.setCell, Array.getElem?_modify, h]
def NoFz (n : Nat) (fz : Nat × Nat) : Prop := ∀ o, o < n → (decide (fz.1 ≤ o) && decide (o < fz.2)) = false
theorem NoFz.zero (n : Nat) : NoFz n (0, 0) := fun o _ => by simp
theorem St.run_store1 (hst : St w0 w I L) {k b off : Nat} {cs : Array Value} {T : TypeId} {fz : Nat × Nat} {v : Value} (hL : L[k]? = some (b, .cells cs T fz)) (hoff : off < cs.size) (hfz : NoFz cs.size fz) (hv : v.oneCell' = true) :
    (store ⟨b, off, none⟩ v).run P w = .ok () (w.setCell ⟨b, off, none⟩ v) ∧ St w0 (w.setCell ⟨b, off, none⟩ v) I (L.set k (b, .cells (cs.setIfInBounds off v) T fz)) := by
  have hb := hst.own _ (List.mem_of_getElem? hL)
  have hc : w.cell? ⟨b, off, none⟩ = some cs[off] := by
    unfold World.cell?; rw [hb]; simp [hoff]
  have hf : w.frozen? ⟨b, off, none⟩ = false := by
    unfold World.frozen?; rw [hb]; exact hfz off hoff
  refine ⟨?_, hst.put hL rfl rfl rfl (World.heap_setCell_at hb) fun j hj _ => Below.heap_setCell _ _ _ _ hj⟩; unfold store
  cases v <;> first | (simp [Sem.run, hc, hf]; done) | (simp [Value.oneCell'] at hv; done)
theorem St.run_stores (vs : List Value) : ∀ {w : World} {L : Own} (_ : St w0 w I L) {k b off : Nat} {cs : Array Value} {T : TypeId} {fz : Nat × Nat} (_ : L[k]? = some (b, .cells cs T fz)) (i : Nat) (_ : off + i + vs.length ≤ cs.size) (_ : NoFz cs.size fz) (_ : ∀ v ∈ vs, v.oneCell' = true),
    ∃ w', (storeCells ⟨b, off, none⟩ vs i).run P w = .ok () w' ∧ St w0 w' I (L.set k (b, .cells (cs.toList.take (off + i) ++ vs ++ cs.toList.drop (off + i + vs.length)).toArray T fz)) := by
  induction vs with
  | nil =>
    intro w L hst k b off cs T fz hL i hle _ _; refine ⟨w, rfl, ?_⟩
    simp only [List.append_nil, List.length_nil, Nat.add_zero, List.take_append_drop, Array.toArray_toList]
    obtain ⟨hk, e⟩ := List.getElem?_eq_some_iff.1 hL; rw [← e, List.set_getElem_self]; exact hst
  | cons v r ih =>
    intro w L hst k b off cs T fz hL i hle hfz hv
    simp only [List.length_cons] at hle
    have hadd : ((⟨b, off, none⟩ : Addr).add i) = ⟨b, off + i, none⟩ := by unfold Addr.add; split <;> simp_all
    obtain ⟨h1, h2⟩ := hst.run_store1 (P := P) hL (off := off + i) (by omega) hfz (hv v (List.mem_cons_self ..)); obtain ⟨hk, _⟩ := List.getElem?_eq_some_iff.1 hL; obtain ⟨w', h3, h4⟩ := ih h2 (k := k) (b := b) (off := off) (cs := cs.setIfInBounds (off + i) v) (T := T) (fz := fz) (by simp [hk]) (i + 1) (by simp; omega) (by simpa using hfz) (fun u hu => hv u (List.mem_cons_of_mem _ hu)); refine ⟨w', ?_, ?_⟩
    · rw [storeCells, hadd]
      simp [go_sem, h1, h3]
    · rw [List.set_set] at h4
      have e : ((cs.setIfInBounds (off + i) v).toList.take (off + (i + 1)) ++ r ++ (cs.setIfInBounds (off + i) v).toList.drop (off + (i + 1) + r.length)) = cs.toList.take (off + i) ++ v :: r ++ cs.toList.drop (off + i + (v :: r).length) := by
        rw [Array.toList_setIfInBounds]
        have hlen : off + i < cs.toList.length := by simp; omega
        rw [List.set_eq_take_append_cons_drop, if_pos hlen]
        have ht : (cs.toList.take (off + i)).length = off + i := by rw [List.length_take]; omega
        rw [List.take_append, List.drop_append, ht]
        have e1 : off + (i + 1) - (off + i) = 1 := by omega
        have e2 : off + (i + 1) + r.length - (off + i) = r.length + 1 := by omega
        rw [e1, e2, List.take_of_length_le (l := cs.toList.take (off + i)) (by omega), drop_nil_of (l := cs.toList.take (off + i)) (by omega)]
        simp only [List.take_succ_cons, List.take_zero, List.nil_append, List.drop_succ_cons, List.drop_drop, List.length_cons, List.append_assoc, List.cons_append]
        rw [show off + i + (r.length + 1) = off + i + 1 + r.length from by omega]
      rw [e] at h4; exact h4
theorem runs_store1 {x y : Operand} {S : TypeId} {z : Value} {bytes : Nat} {k b off : Nat} {cs : Array Value} {T : TypeId} {fz : Nat × Nat} {v : Value} (ht : TI P S z 1 bytes) (hx : ev l x = some (.pointer (some ⟨b, off, none⟩))) (hy : ev l y = some v) (hst : St w0 w I L)
    (hL : L[k]? = some (b, .cells cs T fz)) (hoff : off < cs.size) (hfz : NoFz cs.size fz) (hv : v.oneCell' = true) :
    ∃ w', Runs P (.store S x y) ty l w .skip w' ∧ St w0 w' I (L.set k (b, .cells (cs.setIfInBounds off v) T fz)) :=
  let ⟨h1, h2⟩ := hst.run_store1 (P := P) hL hoff hfz hv
  ⟨_, .ofU (fun ρ => Instr.storeAt S (ρ x) (ρ y)) (fun _ _ _ _ _ => rfl) fun ρ hρ => by
    have hc : v.cells = #[v] := by cases v <;> first | rfl | (simp [Value.oneCell'] at hv; done)
    have h0 : ((⟨b, off, none⟩ : Addr).add 0) = ⟨b, off, none⟩ := rfl
    have h3 : (storeCells ⟨b, off, none⟩ [v] 0).run P w = .ok () (w.setCell ⟨b, off, none⟩ v) := by
      rw [storeCells, h0, Sem.run_bind, h1]; rfl
    have h4 : (storeVar S ⟨b, off, none⟩ v).run P w = .ok () (w.setCell ⟨b, off, none⟩ v) := by
      unfold storeVar; rw [Sem.run_bind, ht.run_size, hc]; exact h3
    simp only [hρ x _ hx, hρ y _ hy, Instr.storeAt, Instr.sureAddr]
    rw [Sem.run_bind]
    exact h4, h2⟩
theorem runs_storeA {x y : Operand} {S : TypeId} {z : Value} {bytes : Nat} {k b off : Nat} {cs : Array Value} {T : TypeId} {fz : Nat × Nat} {vs : List Value} (ht : TI P S z vs.length bytes) (hx : ev l x = some (.pointer (some ⟨b, off, none⟩))) (hy : ev l y = some (.agg vs.toArray)) (hst : St w0 w I L)
    (hL : L[k]? = some (b, .cells cs T fz)) (hoff : off + vs.length ≤ cs.size) (hfz : NoFz cs.size fz) (hv : ∀ v ∈ vs, v.oneCell' = true) :
    ∃ w', Runs P (.store S x y) ty l w .skip w' ∧ St w0 w' I (L.set k (b, .cells (cs.toList.take off ++ vs ++ cs.toList.drop (off + vs.length)).toArray T fz)) :=
by
  obtain ⟨w', h1, h2⟩ := St.run_stores (P := P) vs hst hL 0 (by simpa using hoff) hfz hv
  exact ⟨w', .ofU (fun ρ => Instr.storeAt S (ρ x) (ρ y)) (fun _ _ _ _ _ => rfl) fun ρ hρ => by
    simp [hρ x _ hx, hρ y _ hy, Instr.storeAt, go_sem, Instr.sureAddr, storeVar, ht.run_size, Value.cells, h1], by simpa using h2⟩
end
end Go.Proofs.YtadgbifmiooikaaGreatX
namespace Go.Proofs.YtadgbifmiooikaaGreatX
set_option linter.unusedVariables false
set_option linter.unusedSimpArgs false
open Go Go.RowKit
variable {w0 w : World} {I : Imm} {L : Own} {P : Program} {l : Env} {ty : TypeId}
theorem Addr.add_add (a : Addr) (m n : Nat) : (a.add m).add n = a.add (m + n) := by
  unfold Addr.add
  by_cases h : m = 0
  · subst h; simp
  · by_cases h' : n = 0
    · subst h'; simp [h]
    · simp [h, h', Nat.add_assoc]
theorem add_lit (b off n : Nat) : ((⟨b, off, none⟩ : Addr).add n) = ⟨b, off + n, none⟩ := by unfold Addr.add; split <;> simp_all
theorem runs_int {op : BinOp} {t t' : TypeId} {x y : Operand} {k : IntKind} {a b : Int} {v : Value} (hx : ev l x = some (.int k a)) (hy : ev l y = some (.int k b))
    (h : (binOp op t (.int k a) (.int k b)).run P w = .ok v w) : Runs P (.binOp op t x y t') ty l w (.value v) w :=
  .of (fun ρ => do eqGuard op t x y (ρ x) (ρ y); binOp op t (ρ x) (ρ y)) (fun _ _ _ _ _ => rfl) fun ρ hρ => by
    have hg : (eqGuard op t x y (.int k a) (.int k b)).run P w = .ok () w := by
      cases op <;> rfl
    simp only [hρ x _ hx, hρ y _ hy, Sem.run_bind, hg]
    exact h
theorem wrap_i64 {n : Int} (h : -9223372036854775808 ≤ n ∧ n ≤ 9223372036854775807) : IntKind.i64.wrap n = n := by
  rw [IntKind.wrap_i64]; omega
theorem runs_add {t t' : TypeId} {x y : Operand} {a b : Int} (hx : ev l x = some (.int .i64 a)) (hy : ev l y = some (.int .i64 b)) (h : -9223372036854775808 ≤ a + b ∧ a + b ≤ 9223372036854775807) :
    Runs P (.binOp .add t x y t') ty l w (.value (.int .i64 (a + b))) w := runs_int hx hy (by simp [binOp, Op.intArith, wrap_i64 h, go_sem])
theorem runs_sub {t t' : TypeId} {x y : Operand} {a b : Int} (hx : ev l x = some (.int .i64 a)) (hy : ev l y = some (.int .i64 b)) (h : -9223372036854775808 ≤ a - b ∧ a - b ≤ 9223372036854775807) :
    Runs P (.binOp .sub t x y t') ty l w (.value (.int .i64 (a - b))) w := runs_int hx hy (by simp [binOp, Op.intArith, wrap_i64 h, go_sem])
theorem runs_mul {t t' : TypeId} {x y : Operand} {a b : Int} (hx : ev l x = some (.int .i64 a)) (hy : ev l y = some (.int .i64 b)) (h : -9223372036854775808 ≤ a * b ∧ a * b ≤ 9223372036854775807) :
    Runs P (.binOp .mul t x y t') ty l w (.value (.int .i64 (a * b))) w := runs_int hx hy (by simp [binOp, Op.intArith, wrap_i64 h, go_sem])
theorem runs_addW {t t' : TypeId} {x y : Operand} {k : IntKind} {a b : Int} (hx : ev l x = some (.int k a)) (hy : ev l y = some (.int k b)) :
    Runs P (.binOp .add t x y t') ty l w (.value (.int k (k.wrap (a + b)))) w := runs_int hx hy (by simp [binOp, Op.intArith, go_sem])
theorem runs_subW {t t' : TypeId} {x y : Operand} {k : IntKind} {a b : Int} (hx : ev l x = some (.int k a)) (hy : ev l y = some (.int k b)) :
    Runs P (.binOp .sub t x y t') ty l w (.value (.int k (k.wrap (a - b)))) w := runs_int hx hy (by simp [binOp, Op.intArith, go_sem])
theorem runs_mulW {t t' : TypeId} {x y : Operand} {k : IntKind} {a b : Int} (hx : ev l x = some (.int k a)) (hy : ev l y = some (.int k b)) :
    Runs P (.binOp .mul t x y t') ty l w (.value (.int k (k.wrap (a * b)))) w := runs_int hx hy (by simp [binOp, Op.intArith, go_sem])
theorem runs_quo {t t' : TypeId} {x y : Operand} {k : IntKind} {a b : Int} (hx : ev l x = some (.int k a)) (hy : ev l y = some (.int k b)) (h : b ≠ 0) :
    Runs P (.binOp .quo t x y t') ty l w (.value (.int k (k.wrap (a.tdiv b)))) w := runs_int hx hy (by simp [binOp, Op.intDiv, h, go_sem])
theorem runs_rem {t t' : TypeId} {x y : Operand} {k : IntKind} {a b : Int} (hx : ev l x = some (.int k a)) (hy : ev l y = some (.int k b)) (h : b ≠ 0) :
    Runs P (.binOp .rem t x y t') ty l w (.value (.int k (a.tmod b))) w := runs_int hx hy (by simp [binOp, Op.intDiv, h, go_sem])
def bitop (op : BinOp) (k : IntKind) (x y : Int) : Int := match op with
  | .and => k.wrap ((BitVec.ofInt k.bits x) &&& (BitVec.ofInt k.bits y)).toNat
  | .or => k.wrap ((BitVec.ofInt k.bits x) ||| (BitVec.ofInt k.bits y)).toNat
  | .xor => k.wrap ((BitVec.ofInt k.bits x) ^^^ (BitVec.ofInt k.bits y)).toNat
  | _ => 0
theorem runs_and {t t' : TypeId} {x y : Operand} {k : IntKind} {a b : Int} (hx : ev l x = some (.int k a)) (hy : ev l y = some (.int k b)) :
    Runs P (.binOp .and t x y t') ty l w (.value (.int k (bitop .and k a b))) w := runs_int hx hy (by simp [binOp, Op.intBits, bitop, pure])
theorem runs_or {t t' : TypeId} {x y : Operand} {k : IntKind} {a b : Int} (hx : ev l x = some (.int k a)) (hy : ev l y = some (.int k b)) :
    Runs P (.binOp .or t x y t') ty l w (.value (.int k (bitop .or k a b))) w := runs_int hx hy (by simp [binOp, Op.intBits, bitop, pure])
theorem runs_xor {t t' : TypeId} {x y : Operand} {k : IntKind} {a b : Int} (hx : ev l x = some (.int k a)) (hy : ev l y = some (.int k b)) :
    Runs P (.binOp .xor t x y t') ty l w (.value (.int k (bitop .xor k a b))) w := runs_int hx hy (by simp [binOp, Op.intBits, bitop, pure])
theorem runs_shift {op : BinOp} {t t' : TypeId} {x y : Operand} {k yk : IntKind} {a b : Int} {v : Value} (hop : op = .shl ∨ op = .shr) (hx : ev l x = some (.int k a)) (hy : ev l y = some (.int yk b))
    (h : (Op.shift op k a yk b).run P w = .ok v w) : Runs P (.binOp op t x y t') ty l w (.value v) w :=
  .of (fun ρ => do eqGuard op t x y (ρ x) (ρ y); binOp op t (ρ x) (ρ y)) (fun _ _ _ _ _ => rfl) fun ρ hρ => by
    rcases hop with rfl | rfl <;> (simp only [hρ x _ hx, hρ y _ hy]; exact h)
theorem runs_shl {t t' : TypeId} {x y : Operand} {k yk : IntKind} {a : Int} {n : Nat} (hx : ev l x = some (.int k a)) (hy : ev l y = some (.int yk (n : Int))) (h : n ≤ k.bits) :
    Runs P (.binOp .shl t x y t') ty l w (.value (.int k (k.wrap (a * 2 ^ n)))) w := runs_shift (.inl rfl) hx hy (by
      unfold Op.shift; rw [if_neg (by omega), Int.toNat_natCast, Nat.min_eq_left h]; rfl)
theorem runs_shr {t t' : TypeId} {x y : Operand} {k yk : IntKind} {a : Int} {n : Nat} (hx : ev l x = some (.int k a)) (hy : ev l y = some (.int yk (n : Int))) (h : n ≤ k.bits) :
    Runs P (.binOp .shr t x y t') ty l w (.value (.int k (a.fdiv (2 ^ n)))) w := runs_shift (.inr rfl) hx hy (by
      unfold Op.shift; rw [if_neg (by omega), Int.toNat_natCast, Nat.min_eq_left h]; rfl)
theorem runs_eqI {t t' : TypeId} {x y : Operand} {k : IntKind} {a b : Int} (hx : ev l x = some (.int k a)) (hy : ev l y = some (.int k b)) :
    Runs P (.binOp .eql t x y t') ty l w (.value (.bool (decide (a = b)))) w := runs_int hx hy (by simp [binOp, Op.intCmp, go_sem]; rfl)
theorem runs_neI {t t' : TypeId} {x y : Operand} {k : IntKind} {a b : Int} (hx : ev l x = some (.int k a)) (hy : ev l y = some (.int k b)) :
    Runs P (.binOp .neq t x y t') ty l w (.value (.bool (decide (a ≠ b)))) w := runs_int hx hy (by simp [binOp, Op.intCmp, go_sem]; rfl)
theorem runs_lss {t t' : TypeId} {x y : Operand} {k : IntKind} {a b : Int} (hx : ev l x = some (.int k a)) (hy : ev l y = some (.int k b)) :
    Runs P (.binOp .lss t x y t') ty l w (.value (.bool (decide (a < b)))) w := runs_int hx hy (by simp [binOp, Op.intCmp, go_sem])
theorem runs_leq {t t' : TypeId} {x y : Operand} {k : IntKind} {a b : Int} (hx : ev l x = some (.int k a)) (hy : ev l y = some (.int k b)) :
    Runs P (.binOp .leq t x y t') ty l w (.value (.bool (decide (a ≤ b)))) w := runs_int hx hy (by simp [binOp, Op.intCmp, go_sem])
theorem runs_gtr {t t' : TypeId} {x y : Operand} {k : IntKind} {a b : Int} (hx : ev l x = some (.int k a)) (hy : ev l y = some (.int k b)) :
    Runs P (.binOp .gtr t x y t') ty l w (.value (.bool (decide (b < a)))) w := runs_int hx hy (by simp [binOp, Op.intCmp, go_sem])
theorem runs_geq {t t' : TypeId} {x y : Operand} {k : IntKind} {a b : Int} (hx : ev l x = some (.int k a)) (hy : ev l y = some (.int k b)) :
    Runs P (.binOp .geq t x y t') ty l w (.value (.bool (decide (b ≤ a)))) w := runs_int hx hy (by simp [binOp, Op.intCmp, go_sem])
theorem runs_not {t : TypeId} {x : Operand} {b : Bool} (hx : ev l x = some (.bool b)) : Runs P (.unOp .not t x) ty l w (.value (.bool !b)) w :=
  .of (fun ρ => Op.unary .not (ρ x)) (fun _ _ _ _ _ => rfl) fun ρ hρ => by simp [hρ x _ hx, Op.unary, go_sem]
theorem runs_convI {s d : TypeId} {x : Operand} {j k : IntKind} {a : Int} (hs : (P.underlying s).isSome = true) (hd : P.underlying d = some (.int k)) (hx : ev l x = some (.int j a)) :
    Runs P (.convert s d x) ty l w (.value (.int k (k.wrap a))) w :=
  .of (fun ρ => convert s d (ρ x)) (fun _ _ _ _ _ => rfl) fun ρ hρ => by
    obtain ⟨ds, hds⟩ := Option.isSome_iff_exists.1 hs; unfold convert
    simp [hρ x _ hx, go_sem, run_underlying hds, run_underlying hd, Conv.intToInt]
theorem Runs.bi {b : Builtin} {args : List Operand} {ats : Array TypeId} {vs : List Value} {v : Value} {w' : World} (ha : evs l args = some vs)
    (h : ∀ consts, (builtin b ats ty consts vs.toArray).run P w = .ok (.value v) w') : Runs P (.call ⟨.builtin b, args.toArray, ats⟩) ty l w (.value v) w' := fun ρ hρ _ _ _ _ => by
  have e2 : (args.toArray.map ρ) = vs.toArray := by rw [List.map_toArray, evs_on hρ ha]
  show (do let d ← resolve ρ ⟨.builtin b, args.toArray, ats⟩ ty; invoke d.target d.args : Sem Next).run P w = _
  unfold resolve
  simp only [e2]
  exact h _
theorem runs_max {x y : Operand} {ats : Array TypeId} {k : IntKind} {a b : Int} (hx : ev l x = some (.int k a)) (hy : ev l y = some (.int k b)) :
    Runs P (.call ⟨.builtin .max, #[x, y], ats⟩) ty l w (.value (.int k (if b > a then b else a))) w :=
  Runs.bi (args := [x, y]) (vs := [.int k a, .int k b]) (by simp [evs, hx, hy]) fun consts => by
    have := run_max_int2 (P := P) w ats ty k k a b
    simp only [builtin, Sem.run_bind, this]; rfl
theorem runs_min {x y : Operand} {ats : Array TypeId} {k : IntKind} {a b : Int} (hx : ev l x = some (.int k a)) (hy : ev l y = some (.int k b)) :
    Runs P (.call ⟨.builtin .min, #[x, y], ats⟩) ty l w (.value (.int k (if b < a then b else a))) w :=
  Runs.bi (args := [x, y]) (vs := [.int k a, .int k b]) (by simp [evs, hx, hy]) fun consts => by
    have := run_min_int2 (P := P) w ats ty k k a b
    simp only [builtin, Sem.run_bind, this]; rfl
theorem runs_indexS {t : TypeId} {x y : Operand} {k : IntKind} {s : ByteArray} {i : Int} (ht : P.underlying t = some .string) (hx : ev l x = some (.string s)) (hy : ev l y = some (.int k i)) (h0 : 0 ≤ i) (h1 : i < s.size) :
    Runs P (.index t x y) ty l w (.value (.int .u8 (s[i.toNat]'(by omega)).toNat)) w :=
  .of (fun ρ => Instr.index t (ρ x) (ρ y)) (fun _ _ _ _ _ => rfl) fun ρ hρ => by
    have hs : s[i.toNat]? = some (s[i.toNat]'(by omega)) := by simp
    simp [hρ x _ hx, hρ y _ hy, Instr.index, go_sem, run_underlying ht, asIntOf, h0, hs]
theorem runs_lenS {t : TypeId} {x : Operand} {s : ByteArray} (ht : P.underlying t = some .string) (hx : ev l x = some (.string s)) :
    Runs P (.call ⟨.builtin .len, #[x], #[t]⟩) ty l w (.value (.int .i64 s.size)) w :=
  Runs.bi (args := [x]) (vs := [.string s]) (by simp [evs, hx]) fun consts => by
    have := run_len_string (P := P) w t ty s ht
    simp only [builtin, Sem.run_bind, this]; rfl
theorem runs_eqS {t t' : TypeId} {x y : Operand} {a b : ByteArray} (hx : ev l x = some (.string a)) (hy : ev l y = some (.string b)) :
    Runs P (.binOp .eql t x y t') ty l w (.value (.bool (a.toList == b.toList))) w :=
  .of (fun ρ => do eqGuard .eql t x y (ρ x) (ρ y); binOp .eql t (ρ x) (ρ y)) (fun _ _ _ _ _ => rfl) fun ρ hρ => by
    simp only [hρ x _ hx, hρ y _ hy]; rfl
theorem runs_neS {t t' : TypeId} {x y : Operand} {a b : ByteArray} (hx : ev l x = some (.string a)) (hy : ev l y = some (.string b)) :
    Runs P (.binOp .neq t x y t') ty l w (.value (.bool (!(a.toList == b.toList)))) w :=
  .of (fun ρ => do eqGuard .neq t x y (ρ x) (ρ y); binOp .neq t (ρ x) (ρ y)) (fun _ _ _ _ _ => rfl) fun ρ hρ => by
    simp only [hρ x _ hx, hρ y _ hy]; rfl
theorem runs_addS {t t' : TypeId} {x y : Operand} {a b : ByteArray} (hx : ev l x = some (.string a)) (hy : ev l y = some (.string b)) (h : a.size + b.size ≤ 9223372036854775807) :
    Runs P (.binOp .add t x y t') ty l w (.value (.string (a ++ b))) w :=
  .of (fun ρ => do eqGuard .add t x y (ρ x) (ρ y); binOp .add t (ρ x) (ρ y)) (fun _ _ _ _ _ => rfl) fun ρ hρ => by
    have : ¬ ((a.size + b.size : Nat) : Int) > IntKind.i64.max := by
      show ¬ _ > (9223372036854775807 : Int)
      omega
    have h2 : (Op.stringOp .add a b).run P w = .ok (.string (a ++ b)) w := by
      unfold Op.stringOp
      simp only []
      rw [if_neg this]
      rfl
    simp only [hρ x _ hx, hρ y _ hy]
    exact h2
end Go.Proofs.YtadgbifmiooikaaGreatX
namespace Go.Proofs.YtadgbifmiooikaaGreatX
set_option linter.unusedVariables false
set_option linter.unusedSimpArgs false
open Go Go.RowKit
variable {w0 w : World} {I : Imm} {L : Own} {P : Program} {l : Env} {ty : TypeId}
def RdL (I : Imm) (size : Nat) (v : Value) (n : Nat) (xs : List Value) : Prop :=
  xs.length = n * size ∧ (∀ u ∈ xs, u.oneCell' = true) ∧ ∃ A cap, v = .slice A n cap ∧ n ≤ cap ∧ ∀ j u, xs[j]? = some u → ∃ a, A = some a ∧ I.cell? (a.add j) = some u
theorem RdL.mono {I I' : Imm} (hI : I.le I') {size n : Nat} {v : Value} {xs : List Value} (h : RdL I size v n xs) : RdL I' size v n xs :=
  let ⟨h1, h0, A, cap, h2, h3, h4⟩ := h
  ⟨h1, h0, A, cap, h2, h3, fun j u hj => let ⟨a, h5, h6⟩ := h4 j u hj; ⟨a, h5, hI.cell h6⟩⟩
theorem RdL.nil {I : Imm} (size : Nat) : RdL I size (.slice none 0 0) 0 [] := ⟨by simp, by simp, none, 0, rfl, Nat.le_refl _, fun j u h => by simp at h⟩
def Grow (e : TypeId) (size : Nat) (v : Value) (n : Nat) (xs : List Value) (Lv : Own) : Prop :=
  xs.length = n * size ∧ (∀ u ∈ xs, u.oneCell' = true) ∧ ((v = .slice none 0 0 ∧ n = 0 ∧ Lv = []) ∨
    ∃ g cap cur, v = .slice (some ⟨g, 0, none⟩) n cap ∧ Lv = [(g, .cells cur e)] ∧ n ≤ cap ∧ cap ≤ maxLen ∧ cur.size = cap * size ∧ cur.toList.take (n * size) = xs)
theorem Grow.nil (e : TypeId) (size : Nat) : Grow e size (.slice none 0 0) 0 [] [] := ⟨by simp, by simp, .inl ⟨rfl, rfl, rfl⟩⟩
theorem Grow.freeze {e : TypeId} {size n : Nat} {v : Value} {xs : List Value} {Lv : Own} (hg : Grow e size v n xs Lv) (h : St w0 w I (Lv ++ L)) :
    ∃ I', I.le I' ∧ St w0 w I' L ∧ RdL I' size v n xs := by
  obtain ⟨h1, h0, ⟨rfl, rfl, rfl⟩ | ⟨g, cap, cur, rfl, rfl, h3, h4, h5, h6⟩⟩ := hg
  · have : xs = [] := List.eq_nil_of_length_eq_zero (by simpa using h1); subst this; exact ⟨I, Imm.le.refl I, h, RdL.nil size⟩
  · obtain ⟨h7, h8⟩ := St.freeze (L := L) (by simpa using h); refine ⟨_, h8, h7, h1, h0, _, cap, rfl, h3, fun j u hj => ⟨_, rfl, ?_⟩⟩; rw [add_lit]; unfold Imm.cell?
    simp only [Imm.add_at, Option.isSome_none, Bool.false_eq_true, if_false, Nat.zero_add]
    rw [← h6] at hj; rw [List.getElem?_take] at hj
    split at hj
    · simpa using hj
    · cases hj
theorem Grow.lt {e : TypeId} {size n : Nat} {v : Value} {xs : List Value} {Lv : Own} (hg : Grow e size v n xs Lv) : n ≤ maxLen := by
  obtain ⟨h1, h0, ⟨rfl, rfl, rfl⟩ | ⟨g, cap, cur, rfl, rfl, h3, h4, h5, h6⟩⟩ := hg
  · exact Nat.zero_le _
  · omega
theorem St.block (h : St w0 w I L) {b : Nat} {o : Obj} (hm : (b, o) ∈ L) : w.heap[b]? = some o := h.own _ hm
theorem St.grown_none (h : St w0 w I L) {w' : World} (hg : w.grownBy w' none) : St w0 w' I L :=
  ⟨hg.os.trans h.os, hg.tape.trans h.tape, hg.output.trans h.out, fun b o hb => by rw [hg.block b (h.lt hb) (by simp)]; exact h.imm b o hb,
    fun p hp => by rw [hg.block _ (h.lt_own hp) (by simp)]; exact h.own p hp, h.sep, h.nd⟩
theorem St.cons_new (h : St w0 w I L) {w' : World} (hg : w.grownBy w' none) {b : Nat} {o : Obj} (hb : w.heap.size ≤ b) (ho : w'.heap[b]? = some o) : St w0 w' I ((b, o) :: L) := by
  have h' := h.grown_none hg; refine ⟨h'.os, h'.tape, h'.out, h'.imm, fun p hp => ?_, fun p hp => ?_, ?_⟩
  · rcases List.mem_cons.1 hp with rfl | hp
    · exact ho
    · exact h'.own p hp
  · rcases List.mem_cons.1 hp with rfl | hp
    · cases e : I b with
      | none => rfl
      | some o' => exact absurd (h.lt e) (by omega)
    · exact h'.sep p hp
  · simp only [List.map_cons, List.nodup_cons]
    refine ⟨fun hm => ?_, h.nd⟩; obtain ⟨p, hp, he⟩ := List.mem_map.1 hm; have := h.lt_own hp; omega
theorem runs_lenL {t e : TypeId} {x : Operand} {A : Option Addr} {n c : Nat} (ht : P.underlying t = some (.slice e)) (hx : ev l x = some (.slice A n c)) :
    Runs P (.call ⟨.builtin .len, #[x], #[t]⟩) ty l w (.value (.int .i64 n)) w :=
  Runs.bi (args := [x]) (vs := [.slice A n c]) (by simp [evs, hx]) fun consts => by
    have he : P.elem t = e := by simp [Program.elem, ht]
    have := run_len_slice (P := P) w t ty A n c (by rw [he]; exact ht)
    simp only [builtin, Sem.run_bind, this]; rfl
theorem runs_indexAddr {t e : TypeId} {x y : Operand} {a : Addr} {n c : Nat} {k : IntKind} {i : Int} {z : Value} {size bytes : Nat} (ht : P.underlying t = some (.slice e)) (he : TI P e z size bytes) (hx : ev l x = some (.slice (some a) n c)) (hy : ev l y = some (.int k i))
    (h : 0 ≤ i ∧ i < n) : Runs P (.indexAddr t x y) ty l w (.value (.pointer (some (a.add (i.toNat * size))))) w :=
  .of (fun ρ => Instr.indexAt t (ρ x) (ρ y)) (fun _ _ _ _ _ => rfl) fun ρ hρ => by
    have hel : P.elem t = e := by simp [Program.elem, ht]
    have := run_indexAt_slice (P := P) w t a n c k i (by rw [hel]; exact ht); rw [if_pos h, hel, he.run_size] at this
    simp only [hρ x _ hx, hρ y _ hy]
    exact this
theorem RdL.part {I : Imm} {size n : Nat} {A : Option Addr} {cap : Nat} {xs : List Value} (h : RdL I size (.slice A n cap) n xs) {lo hi : Nat} (h1 : lo ≤ hi) (h2 : hi ≤ n) :
    RdL I size (sliced A lo hi cap size) (hi - lo) ((xs.drop (lo * size)).take ((hi - lo) * size)) := by
  obtain ⟨h3, h0, A', cap', h4, h5, h6⟩ := h
  cases h4
  refine ⟨?_, fun u hu => h0 u (List.mem_of_mem_drop (List.mem_of_mem_take hu)), _, _, rfl, by omega, fun j u hj => ?_⟩
  · rw [List.length_take, List.length_drop, h3, ← Nat.sub_mul]; exact Nat.min_eq_left (Nat.mul_le_mul_right _ (by omega))
  · rw [List.getElem?_take] at hj
    split at hj
    · rename_i hlt
      rw [List.getElem?_drop] at hj; obtain ⟨a, rfl, h7⟩ := h6 _ _ hj
      by_cases hc : cap = lo
      · exfalso
        have : (hi - lo) * size = 0 := by rw [show hi - lo = 0 from by omega]; simp
        omega
      · refine ⟨_, by simp only [if_neg hc]; rfl, ?_⟩
        rw [Addr.add_add]; exact h7
    · cases hj
theorem runs_slice {t e : TypeId} {x : Operand} {A : Option Addr} {n c lo hi : Nat} {low high mx : Option Operand} {z : Value} {size bytes : Nat} {m : Nat} (ht : P.underlying t = some (.slice e)) (he : TI P e z size bytes) (hx : ev l x = some (.slice A n c))
    (hb : ∀ ρ, (∀ x v, ev l x = some v → ρ x = v) → (Instr.sliceBounds true n c (low.map ρ) (high.map ρ) (mx.map ρ)).run P w = .ok (lo, hi, m) w) :
    Runs P (.slice t x low high mx) ty l w (.value (sliced A lo hi m size)) w :=
  .of (fun ρ => Instr.sliceAt t (ρ x) (low.map ρ) (high.map ρ) (mx.map ρ)) (fun _ _ _ _ _ => rfl) fun ρ hρ => by
    have hel : P.elem t = e := by simp [Program.elem, ht]
    rw [hρ x _ hx, run_sliceAt_slice _ _ _ _ _ _ (by rw [hel]; exact ht), run_slice_any _ _ _ _ _ (by rw [hel]; exact ht), hb ρ hρ, hel]
    simp only [Result.andThen]
    rw [he.run_size]
theorem sb_ok (w : World) {k : IntKind} {i : Int} {y : Nat} (h0 : 0 ≤ i) (h1 : i ≤ y) (code : BoundsCode) : (Instr.sliceBound (.int k i) y code).run P w = .ok i.toNat w := run_sliceBound _ _ _ _ _ h0 h1
theorem runs_slice_lh {t e : TypeId} {x y y' : Operand} {A : Option Addr} {n c : Nat} {k k' : IntKind} {lo hi : Int} {z : Value} {size bytes : Nat} (ht : P.underlying t = some (.slice e)) (he : TI P e z size bytes) (hx : ev l x = some (.slice A n c))
    (hy : ev l y = some (.int k lo)) (hy' : ev l y' = some (.int k' hi)) (h : 0 ≤ lo ∧ lo ≤ hi ∧ hi ≤ c) : Runs P (.slice t x (some y) (some y') none) ty l w (.value (sliced A lo.toNat hi.toNat c size)) w :=
  runs_slice ht he hx fun ρ hρ => by
    have b1 := sb_ok (P := P) w (k := k') (i := hi) (y := c) (by omega) (by omega); have b2 := sb_ok (P := P) w (k := k) (i := lo) (y := hi.toNat) (by omega) (by omega)
    simp only [hρ y _ hy, hρ y' _ hy', b1, b2, Instr.sliceBounds, Sem.run_bind, pure, Sem.run, if_true, if_false, Option.isSome_none, Option.isSome_some, Bool.false_eq_true, Result.andThen, Option.map_some, Option.map_none]
theorem runs_slice_l {t e : TypeId} {x y : Operand} {A : Option Addr} {n c : Nat} {k : IntKind} {lo : Int} {z : Value} {size bytes : Nat} (ht : P.underlying t = some (.slice e)) (he : TI P e z size bytes) (hx : ev l x = some (.slice A n c))
    (hy : ev l y = some (.int k lo)) (h : 0 ≤ lo ∧ lo ≤ n) : Runs P (.slice t x (some y) none none) ty l w (.value (sliced A lo.toNat n c size)) w :=
  runs_slice ht he hx fun ρ hρ => by
    have b2 := sb_ok (P := P) w (k := k) (i := lo) (y := n) (by omega) (by omega)
    simp only [hρ y _ hy, b2, Instr.sliceBounds, Sem.run_bind, pure, Sem.run, if_true, if_false, Option.isSome_none, Option.isSome_some, Bool.false_eq_true, Result.andThen, Option.map_some, Option.map_none]
theorem runs_slice_h {t e : TypeId} {x y' : Operand} {A : Option Addr} {n c : Nat} {k' : IntKind} {hi : Int} {z : Value} {size bytes : Nat} (ht : P.underlying t = some (.slice e)) (he : TI P e z size bytes) (hx : ev l x = some (.slice A n c))
    (hy' : ev l y' = some (.int k' hi)) (h : 0 ≤ hi ∧ hi ≤ c) : Runs P (.slice t x none (some y') none) ty l w (.value (sliced A 0 hi.toNat c size)) w :=
  runs_slice ht he hx fun ρ hρ => by
    have b1 := sb_ok (P := P) w (k := k') (i := hi) (y := c) (by omega) (by omega)
    simp only [hρ y' _ hy', b1, Instr.sliceBounds, Sem.run_bind, pure, Sem.run, if_true, if_false, Option.isSome_none, Option.isSome_some, Bool.false_eq_true, Result.andThen, Option.map_some, Option.map_none]
theorem runs_sliceS {t : TypeId} {x : Operand} {s : ByteArray} {low high : Option Operand} {lo hi m : Nat} (ht : P.underlying t = some .string) (hx : ev l x = some (.string s))
    (hb : ∀ ρ, (∀ x v, ev l x = some v → ρ x = v) → (Instr.sliceBounds false s.size s.size (low.map ρ) (high.map ρ) none).run P w = .ok (lo, hi, m) w) :
    Runs P (.slice t x low high none) ty l w (.value (.string (s.extract lo hi))) w :=
  .of (fun ρ => Instr.sliceAt t (ρ x) (low.map ρ) (high.map ρ) none) (fun _ _ _ _ _ => rfl) fun ρ hρ => by
    have h1 : (Instr.sliceAt t (.string s) (low.map ρ) (high.map ρ) none).run P w = (Instr.slice t (.string s) (low.map ρ) (high.map ρ) none).run P w := by
      unfold Instr.sliceAt
      simp only [Sem.run_bind, run_underlying ht, Result.andThen]
    have h2 : (Instr.slice t (.string s) (low.map ρ) (high.map ρ) none).run P w = .ok (.string (s.extract lo hi)) w := by
      unfold Instr.slice
      simp only [Sem.run_bind, run_underlying ht, Result.andThen, Option.isSome_none, Bool.false_eq_true, if_false, hb ρ hρ]
      rfl
    rw [hρ x _ hx, h1, h2]
theorem runs_sliceS_lh {t : TypeId} {x y y' : Operand} {s : ByteArray} {k k' : IntKind} {lo hi : Int} (ht : P.underlying t = some .string) (hx : ev l x = some (.string s)) (hy : ev l y = some (.int k lo)) (hy' : ev l y' = some (.int k' hi)) (h : 0 ≤ lo ∧ lo ≤ hi ∧ hi ≤ s.size) :
    Runs P (.slice t x (some y) (some y') none) ty l w (.value (.string (s.extract lo.toNat hi.toNat))) w :=
  runs_sliceS (m := s.size) ht hx fun ρ hρ => by
    have b1 := sb_ok (P := P) w (k := k') (i := hi) (y := s.size) (by omega) (by omega); have b2 := sb_ok (P := P) w (k := k) (i := lo) (y := hi.toNat) (by omega) (by omega)
    simp only [hρ y _ hy, hρ y' _ hy', b1, b2, Instr.sliceBounds, Sem.run_bind, pure, Sem.run, if_true, if_false, Option.isSome_none, Option.isSome_some, Bool.false_eq_true, Result.andThen, Option.map_some, Option.map_none]
theorem runs_sliceS_l {t : TypeId} {x y : Operand} {s : ByteArray} {k : IntKind} {lo : Int} (ht : P.underlying t = some .string) (hx : ev l x = some (.string s)) (hy : ev l y = some (.int k lo)) (h : 0 ≤ lo ∧ lo ≤ s.size) :
    Runs P (.slice t x (some y) none none) ty l w (.value (.string (s.extract lo.toNat s.size))) w :=
  runs_sliceS (m := s.size) ht hx fun ρ hρ => by
    have b2 := sb_ok (P := P) w (k := k) (i := lo) (y := s.size) (by omega) (by omega)
    simp only [hρ y _ hy, b2, Instr.sliceBounds, Sem.run_bind, pure, Sem.run, if_true, if_false, Option.isSome_none, Option.isSome_some, Bool.false_eq_true, Result.andThen, Option.map_some, Option.map_none]
theorem runs_sliceS_h {t : TypeId} {x y' : Operand} {s : ByteArray} {k' : IntKind} {hi : Int} (ht : P.underlying t = some .string) (hx : ev l x = some (.string s)) (hy' : ev l y' = some (.int k' hi)) (h : 0 ≤ hi ∧ hi ≤ s.size) :
    Runs P (.slice t x none (some y') none) ty l w (.value (.string (s.extract 0 hi.toNat))) w :=
  runs_sliceS (m := s.size) ht hx fun ρ hρ => by
    have b1 := sb_ok (P := P) w (k := k') (i := hi) (y := s.size) (by omega) (by omega)
    simp only [hρ y' _ hy', b1, Instr.sliceBounds, Sem.run_bind, pure, Sem.run, if_true, if_false, Option.isSome_none, Option.isSome_some, Bool.false_eq_true, Result.andThen, Option.map_some, Option.map_none]
theorem parts_eq {ρ : Operand → Value} (hρ : ∀ x v, ev l x = some v → ρ x = v) : ∀ {parts : List (Nat × Operand)} {vs : List (Nat × Value)}, evs l (parts.map (·.2)) = some (vs.map (·.2)) → parts.map (·.1) = vs.map (·.1) →
    (parts.toArray.map fun (i, x) => (i, ρ x)) = vs.toArray := fun {parts vs} hv hi => by
  rw [List.map_toArray]
  congr 1
  have h1 := evs_on hρ hv; clear hv
  induction parts generalizing vs with
  | nil => cases vs with
    | nil => rfl
    | cons _ _ => simp at hi
  | cons p r ih => cases vs with
    | nil => simp at hi
    | cons q s =>
      simp only [List.map_cons, List.cons.injEq] at hi h1
      simp only [List.map_cons, List.cons.injEq]
      exact ⟨Prod.ext hi.1 h1.1, ih hi.2 h1.2⟩
theorem runs_build {t : TypeId} {parts : List (Nat × Operand)} {vs : List (Nat × Value)} {cells : List Value} (hv : evs l (parts.map (·.2)) = some (vs.map (·.2))) (hi : parts.map (·.1) = vs.map (·.1)) (hb : P.built t vs = some cells.toArray) :
    Runs P (.build t parts.toArray) ty l w (.value (.agg cells.toArray)) w :=
  .of (fun ρ => Instr.build t (parts.toArray.map fun (i, x) => (i, ρ x))) (fun _ _ _ _ _ => rfl) fun ρ hρ => by
    rw [parts_eq hρ hv hi]; exact run_build w t vs.toArray cells.toArray (by simpa using hb)
theorem run_append_m0 {t e : TypeId} {z : Value} {size bytes : Nat} {A B : Option Addr} {n cap c : Nat} (ht : P.underlying t = some (.slice e)) (he : TI P e z size bytes) (hn : n ≤ cap) :
    (Builtin.append_ #[t, t] ty #[.slice A n cap, .slice B 0 c]).run P w = .ok (.slice A n cap) w := by
  have hf : (Builtin.firstCells size 0 (.slice B 0 c)).run P w = .ok #[] w := by
    cases B with
    | none => rfl
    | some a => simp only [Builtin.firstCells, Nat.zero_mul]; rfl
  unfold Builtin.append_
  simp only [List.getElem?_toArray, List.getElem?_cons_zero, List.getElem?_cons_succ, Sem.run_bind, run_underlying ht, Result.andThen, he.run_size]
  have hm : (match (TypeDesc.slice e : TypeDesc) with | .int _ => true | _ => false) = false := rfl
  simp only [pure, Sem.run, Builtin.lenOf, Bool.false_eq_true, if_false, Nat.add_zero, hn, if_true, Bool.not_false, Sem.run_bind, hf, Result.andThen]
  cases A <;> rfl
theorem run_appendG {t e : TypeId} {z : Value} {size bytes : Nat} (ht : P.underlying t = some (.slice e)) (he : TI P e z size bytes) (hz : z.cells.size = size) (h0 : 0 < size) {v : Value} {n : Nat} {xs : List Value} {Lv : Own} (hst : St w0 w I (Lv ++ L)) (hg : Grow e size v n xs Lv)
    {B : Option Addr} {m c : Nat} {news : List Value} (hlen : news.length = m * size) (hsrc : ∀ j u, news[j]? = some u → ∃ a, B = some a ∧ w.cell? (a.add j) = some u) (hone : ∀ u ∈ news, u.oneCell' = true)
    (hb : (n + m) * bytes ≤ 140737488355328) (hmax : n + m ≤ maxLen) :
    ∃ v' w' Lv', (Builtin.append_ #[t, t] ty #[v, .slice B m c]).run P w = .ok v' w' ∧ St w0 w' I (Lv' ++ L) ∧ Grow e size v' (n + m) (xs ++ news) Lv' := by
  obtain ⟨i, hi1, hi2, hi3, hi4⟩ := he.get
  by_cases hm : m = 0
  · subst hm; have hnews : news = [] := List.eq_nil_of_length_eq_zero (by simpa using hlen); subst hnews; refine ⟨v, w, Lv, ?_, hst, by simpa using hg⟩; obtain ⟨_, _, ⟨rfl, rfl, rfl⟩ | ⟨g, cap, cur, rfl, rfl, h3, _⟩⟩ := hg
    · exact run_append_m0 ht he (Nat.le_refl _)
    · exact run_append_m0 ht he h3
  · have hpos : 0 < news.length := by rw [hlen]; exact Nat.mul_pos (by omega) h0
    obtain ⟨a, rfl, _⟩ := hsrc 0 news[0] (by simp [hpos])
    have hsrc' : ∀ j u, news[j]? = some u → w.cell? (a.add j) = some u := fun j u hj => by
      obtain ⟨a', h1, h2⟩ := hsrc j u hj
      cases h1; exact h2
    obtain ⟨hxl, hxo, ⟨rfl, rfl, rfl⟩ | ⟨g, cap, cur, rfl, rfl, h3, h4, h5, h6⟩⟩ := hg
    · have hx : xs = [] := List.eq_nil_of_length_eq_zero (by simpa using hxl); subst hx; obtain ⟨v', w', h7, h8, h9, h10⟩ := run_append_own (P := P) w w.heap.size t ty e i z size bytes ht hi1 hi2 hi3 hi4 hz h0 (.slice none 0 0) 0 [] ⟨by simp, .inl ⟨rfl, rfl⟩⟩ a m c news hlen hsrc' hone (by simpa using hmax) (by simpa using hb) (Nat.le_refl _); obtain ⟨h11, ⟨e1, e2⟩ | ⟨g, cap, cur, rfl, hge, hheap, h12, h13, h14, h15⟩⟩ := h8
      · omega
      · exact ⟨_, w', [(g, .cells cur e)], h7, hst.cons_new h9 hge hheap, h11, by simpa using hone, .inr ⟨g, cap, cur, rfl, rfl, h12, h13, h14, h15⟩⟩
    · have hmem : (g, Obj.cells cur e) ∈ ([(g, .cells cur e)] ++ L : Own) := by simp
      have hheap := hst.own _ hmem; have hown : w.ownsRow 0 e size (.slice (some ⟨g, 0, none⟩) n cap) n xs := ⟨hxl, .inr ⟨g, cap, cur, rfl, Nat.zero_le _, hheap, h3, h4, h5, h6⟩⟩
      by_cases hfit : n + m ≤ cap
      · obtain ⟨w', h7, h8, h9⟩ := run_append_fits (P := P) w 0 t ty e i size ht hi1 hi3 g n cap xs hown a m c news hlen hsrc' hone hfit; obtain ⟨h11, ⟨e1, e2⟩ | ⟨g', cap', cur', e1, _, hheap', h12, h13, h14, h15⟩⟩ := h8
        · cases e1
        · cases e1
          refine ⟨_, w', [(g, .cells cur' e)], h7, ?_, h11, fun u hu => (List.mem_append.1 hu).elim (hxo u) (hone u), .inr ⟨g, cap, cur', rfl, rfl, h12, h13, h14, h15⟩⟩; have := hst.put (k := 0) (b := g) (o := .cells cur e) (o' := .cells cur' e) (w' := w') rfl h9.os h9.tape h9.output hheap' (fun j hj hlt => h9.block j hlt (fun h => hj (Option.some.inj h)))
          simpa using this
      · have hold : ∀ j u, xs[j]? = some u → w.cell? ((⟨g, 0, none⟩ : Addr).add j) = some u := fun j u hj => by
          rw [add_lit, Nat.zero_add]; refine hst.cell_own (k := 0) rfl ?_; rw [← h6, List.getElem?_take] at hj
          split at hj
          · simpa using hj
          · cases hj
        obtain ⟨v', w', h7, h8, h9⟩ := run_append_arg_grows (P := P) w t ty e i z size bytes ht hi1 hi2 hi3 hi4 hz h0 ⟨g, 0, none⟩ n cap xs hxl hold a m c news hlen hsrc' (by omega) hmax hb; obtain ⟨h11, ⟨e1, e2⟩ | ⟨g', cap', cur', rfl, hge, hheap', h12, h13, h14, h15⟩⟩ := h8
        · omega
        · exact ⟨_, w', [(g', .cells cur' e)], h7, (hst.sub (by simp)).cons_new h9 hge hheap', h11, fun u hu => (List.mem_append.1 hu).elim (hxo u) (hone u), .inr ⟨g', cap', cur', rfl, rfl, h12, h13, h14, h15⟩⟩
theorem runs_appendG {t e : TypeId} {z : Value} {size bytes : Nat} (ht : P.underlying t = some (.slice e)) (he : TI P e z size bytes) (hz : z.cells.size = size) (h0 : 0 < size) {x y : Operand} {v : Value} {n : Nat} {xs : List Value} {Lv : Own} (hx : ev l x = some v) {B : Option Addr} {m c : Nat} (hy : ev l y = some (.slice B m c))
    (hst : St w0 w I (Lv ++ L)) (hg : Grow e size v n xs Lv) {news : List Value} (hlen : news.length = m * size) (hsrc : ∀ j u, news[j]? = some u → ∃ a, B = some a ∧ w.cell? (a.add j) = some u) (hone : ∀ u ∈ news, u.oneCell' = true)
    (hb : (n + m) * bytes ≤ 140737488355328) (hmax : n + m ≤ maxLen) :
    ∃ v' w', Runs P (.call ⟨.builtin .append, #[x, y], #[t, t]⟩) ty l w (.value v') w' ∧ ∃ Lv', St w0 w' I (Lv' ++ L) ∧ Grow e size v' (n + m) (xs ++ news) Lv' := by
  obtain ⟨v', w', Lv', h1, h2, h3⟩ := run_appendG (P := P) (ty := ty) ht he hz h0 hst hg hlen hsrc hone hb hmax (c := c); exact ⟨v', w', Runs.bi (args := [x, y]) (vs := [v, .slice B m c]) (by simp [evs, hx, hy]) fun consts => by simp only [builtin, Sem.run_bind, h1]; rfl, Lv', h2, h3⟩
theorem RdL.src {size n : Nat} {v : Value} {xs : List Value} (h : RdL I size v n xs) (hst : St w0 w I L) : ∃ B c, v = .slice B n c ∧ (∀ j u, xs[j]? = some u → ∃ a, B = some a ∧ w.cell? (a.add j) = some u) :=
  let ⟨_, _, A, cap, h2, _, h4⟩ := h
  ⟨A, cap, h2, fun j u hj => let ⟨a, h5, h6⟩ := h4 j u hj; ⟨a, h5, hst.cell_imm h6⟩⟩
theorem runs_appendR {t e : TypeId} {z : Value} {size bytes : Nat} (ht : P.underlying t = some (.slice e)) (he : TI P e z size bytes) (hz : z.cells.size = size) (h0 : 0 < size) {x y : Operand} {v u : Value} {n m : Nat} {xs news : List Value} {Lv : Own} (hx : ev l x = some v) (hy : ev l y = some u)
    (hst : St w0 w I (Lv ++ L)) (hg : Grow e size v n xs Lv) (hr : RdL I size u m news) (hb : (n + m) * bytes ≤ 140737488355328) (hmax : n + m ≤ maxLen) :
    ∃ v' w', Runs P (.call ⟨.builtin .append, #[x, y], #[t, t]⟩) ty l w (.value v') w' ∧ ∃ Lv', St w0 w' I (Lv' ++ L) ∧ Grow e size v' (n + m) (xs ++ news) Lv' := by
  obtain ⟨B, c, rfl, h1⟩ := hr.src hst; exact runs_appendG ht he hz h0 hx hy hst hg hr.1 h1 hr.2.1 hb hmax
theorem run_buildSlice {t e : TypeId} {z : Value} {size bytes n : Nat} {vs : List (Nat × Value)} {cells : List Value} (ht : P.underlying t = some (.slice e)) (he : TI P e z size bytes) (hn : n * size ≤ 16777216)
    (hf : Instr.fill (fun i => some (i * size, size)) ((Array.range (n * size)).map ((if n * size = 0 then #[] else z.cells)[· % (if n * size = 0 then #[] else z.cells).size]!)) vs = some cells.toArray) :
    (Instr.buildSlice t n vs.toArray).run P w = .ok (.slice (some ⟨w.heap.size, 0, none⟩) n n) (w.alloc (.cells cells.toArray e)) := by
  unfold Instr.buildSlice
  simp only [Sem.run_bind, run_underlying ht, Result.andThen, he.run_size]
  rw [if_neg (by omega)]
  by_cases h0 : n * size = 0
  · simp only [h0, if_true] at hf ⊢
    simp only [pure, Sem.run_bind, Sem.run, Result.andThen]
    rw [hf]
    rfl
  · simp only [if_neg h0] at hf ⊢
    simp only [pure, Sem.run_bind, he.run_zero, Sem.run, Result.andThen]
    rw [hf]
    rfl
theorem runs_buildSlice {t e : TypeId} {z : Value} {size bytes n : Nat} {parts : List (Nat × Operand)} {vs : List (Nat × Value)} {cells : List Value} (ht : P.underlying t = some (.slice e)) (he : TI P e z size bytes) (hn : n * size ≤ 16777216)
    (hv : evs l (parts.map (·.2)) = some (vs.map (·.2))) (hi : parts.map (·.1) = vs.map (·.1))
    (hf : Instr.fill (fun i => some (i * size, size)) ((Array.range (n * size)).map ((if n * size = 0 then #[] else z.cells)[· % (if n * size = 0 then #[] else z.cells).size]!)) vs = some cells.toArray) (hst : St w0 w I L) (hlen : cells.length = n * size) (hone : ∀ u ∈ cells, u.oneCell' = true) (hmax : n ≤ maxLen) :
    ∃ v w', Runs P (.buildSlice t n parts.toArray) ty l w (.value v) w' ∧ ∃ Lv, St w0 w' I (Lv ++ L) ∧ Grow e size v n cells Lv := by
  have hgrow : Grow e size (.slice (some ⟨w.heap.size, 0, none⟩) n n) n cells [(w.heap.size, .cells cells.toArray e)] :=
    ⟨hlen, hone, .inr ⟨w.heap.size, n, cells.toArray, rfl, rfl, Nat.le_refl _, hmax, by simpa using hlen, by rw [← hlen]; simp⟩⟩
  have hst' : St w0 (w.alloc (.cells cells.toArray e)) I ([(w.heap.size, .cells cells.toArray e)] ++ L) := hst.heap_new _; refine ⟨.slice (some ⟨w.heap.size, 0, none⟩) n n, w.alloc (.cells cells.toArray e), Runs.of (fun ρ => Instr.buildSlice t n (parts.toArray.map fun (i, x) => (i, ρ x))) (fun ρ dst pos after guard => by simp only [execOp]) ?_, _, hst', hgrow⟩; intro ρ hρ; rw [parts_eq hρ hv hi]; exact run_buildSlice ht he hn hf
end Go.Proofs.YtadgbifmiooikaaGreatX
namespace Go.Proofs.YtadgbifmiooikaaGreatX
set_option linter.unusedVariables false
set_option linter.unusedSimpArgs false
open Go Go.RowKit
section
variable {P : Program} {ops : Array Oper} {md : Region.Mode} {F : World → Prop}
def onlyN (Q : Act → World → Prop) : Exit → Act → World → Prop
  | .normal, a, w => Q a w
  | _, _, _ => False
def wpAnyF (P : Program) (md : Region.Mode) (ops : Array Oper) (F : World → Prop) (Q : Act → World → Prop) : Nat → Array Bool → Act → World → Prop
  | 0, listed, a, w => Region.ready md ops listed = [] ∧ Q a w
  | fuel + 1, listed, a, w =>
    (Region.ready md ops listed = [] → Q a w) ∧
    ∀ i ∈ Region.ready md ops listed, wpOp P ops (onlyN Q) i (fun a' w' => F w' ∧ wpAnyF P md ops F Q fuel (listed.setIfInBounds i true) a' w') a w
theorem wpOp_mono2 {Q Q' : Exit → Act → World → Prop} {i : Nat} {a : Act} {w : World} {K K' : Act → World → Prop} (h : ∀ a w, K a w → K' a w) (hq : ∀ e a w, Q e a w → Q' e a w)
    (hh : wpOp P ops Q i K a w) : wpOp P ops Q' i K' a w := by
  unfold wpOp at *
  split
  · exact h _ _ (by simpa [*] using hh)
  · rename_i o ho
    simp only [ho] at hh
    split
    · rename_i hw; simp only [hw, if_true] at hh; exact hh.imp (Oper.wp_mono2 h hq) (fun ⟨h1, a, w, q⟩ => ⟨h1, a, w, hq _ _ _ q⟩)
    · rename_i hw; simp only [hw] at hh; exact h _ _ hh
theorem wpAny_of_F {Q : Act → World → Prop} {Q' : Exit → Act → World → Prop} (hq : ∀ a w, Q a w → Q' .normal a w) : ∀ (fuel : Nat) (listed : Array Bool) (a : Act) (w : World), wpAnyF P md ops F Q fuel listed a w → wpAny P md ops Q' fuel listed a w
  | 0, _, _, _, h => ⟨h.1, hq _ _ h.2⟩
  | fuel + 1, _, _, _, h => ⟨fun h0 => hq _ _ (h.1 h0), fun i hi => wpOp_mono2 (fun a' w' h' => wpAny_of_F hq fuel _ a' w' h'.2) (fun e a w q => by cases e <;> first | exact hq _ _ q | exact q.elim) (h.2 i hi)⟩
def YieldsF (P : Program) (ops : Array Oper) (F : World → Prop) (o : Oper) (v : Value) (a : Act) : Prop :=
  (Region.wanted o (yielded ops a.tmps) = true ∧ ∀ w, F w → (execOp a.eval o).run P w = .ok (.value v) w) ∨
  (Region.wanted o (yielded ops a.tmps) = false ∧ v = undef)
theorem YieldsF.wpOp {i : Nat} {o : Oper} {v : Value} {a : Act} {Q : Exit → Act → World → Prop} (hi : ops[i]? = some o) (hy : YieldsF P ops F o v a)
    {K : Act → World → Prop} {w : World} (hF : F w) (h : K (a.put o.dst v) w) : wpOp P ops Q i K a w := by
  unfold Go.wpOp
  simp only [hi]
  rcases hy with ⟨hw, hv⟩ | ⟨hw, rfl⟩
  · simp only [hw, if_true, Oper.wp, hv w hF, Oper.upon]; exact .inl h
  · simp only [hw, Bool.false_eq_true, if_false]; exact h
theorem YieldsF.of_same {o : Oper} {v : Value} {a a' : Act} (hy : YieldsF P ops F o v a) (he : execOp a'.eval o = execOp a.eval o)
    (hw : Region.wanted o (yielded ops a'.tmps) = Region.wanted o (yielded ops a.tmps)) : YieldsF P ops F o v a' := by
  unfold YieldsF at *; rw [he, hw]; exact hy
theorem wpOp_putF {Q : Act → World → Prop} {j : Nat} {oi oj : Oper} {v : Value} (hj : ops[j]? = some oj) (hap : oi.apart ops oj = true)
    (hsi : ∀ cs b, oi.op ≠ .select cs b) (hsj : ∀ cs b, oj.op ≠ .select cs b) {K : Act → World → Prop} {a : Act} {w : World}
    (hy : YieldsF P ops F oi v a) (h : wpOp P ops (onlyN Q) j K (a.put oi.dst v) w) :
    wpOp P ops (onlyN Q) j (fun a' w' => YieldsF P ops F oi v a' ∧ K (a'.put oi.dst v) w') a w := by
  obtain ⟨h1, h2, h3⟩ := Oper.apart_spec hap
  have keep : ∀ (a : Act), YieldsF P ops F oi v a → ∀ u, YieldsF P ops F oi v (a.put oj.dst u) := fun a hy u =>
    hy.of_same (execOp_put oi hsi a oj.dst u h3) (wanted_put oi a oj.dst u h3)
  have keepD : ∀ d, YieldsF P ops F oi v { a with defers := d :: a.defers } := fun d => hy.of_same rfl rfl
  unfold wpOp at *
  simp only [hj] at *
  rw [wanted_put oj a oi.dst v h1] at h
  split
  · rename_i hw
    simp only [hw, if_true] at h
    rcases h with h | ⟨hasks, hlets⟩
    case inr => exact .inr ⟨by unfold Oper.asks at *; rw [execOp_put oj hsj a oi.dst v h1] at hasks; exact hasks, hlets⟩
    refine .inl ?_; unfold Oper.wp at *; rw [execOp_put oj hsj a oi.dst v h1] at h
    generalize (execOp a.eval oj).run P w = r at *
    cases r with
    | ok n w' =>
      cases n <;> simp only [Oper.upon] at h ⊢
      case value u => exact ⟨keep a hy u, by rw [← Act.put_comm a v u h2]; exact h⟩
      case skip => exact ⟨keep a hy _, by rw [← Act.put_comm a v undef h2]; exact h⟩
      case defer d =>
        refine ⟨keep _ (keepD d) _, ?_⟩; rw [← Act.put_comm _ v undef h2, ← Act.put_defers]; exact h
      case enter f args =>
        refine Calls.mono h fun e w'' he => ?_
        cases e with
        | returned u => exact ⟨keep a hy u, by rw [← Act.put_comm a v u h2]; exact he⟩
        | panicked c => exact he
        | outgrown => exact he
      case row row args => exact Rows.mono h fun u w'' he => ⟨keep a hy u, by rw [← Act.put_comm a v u h2]; exact he⟩
    | halt x w' =>
      cases x <;> simp only [Oper.upon] at h ⊢
      case panic u => exact h
  · rename_i hw
    simp only [hw] at h
    exact ⟨keep a hy _, by rw [← Act.put_comm a v undef h2]; exact h⟩
theorem wpAnyF_first {Q : Act → World → Prop} {i : Nat} {oi : Oper} {v : Value} (hi : ops[i]? = some oi) (hsel : ∀ (j : Nat) (o : Oper) cs b, ops[j]? = some o → o.op ≠ .select cs b) :
    ∀ (fuel : Nat) (listed : Array Bool) (a : Act) (w : World), F w →
      (∀ j oj, ops[j]? = some oj → j ≠ i → listed.getD j true = false → (∀ e ∈ oj.after, Region.binds md e = true → e.on ≠ i) → oi.apart ops oj = true) →
      i ∈ Region.ready md ops listed → YieldsF P ops F oi v a →
      wpAnyF P md ops F Q fuel (listed.setIfInBounds i true) (a.put oi.dst v) w → wpAnyF P md ops F Q (fuel + 1) listed a w := by
  intro fuel
  induction fuel with
  | zero =>
    intro listed a w hF _ hr hy H; refine ⟨fun h => (by rw [h] at hr; cases hr), fun j hj => ?_⟩
    by_cases hji : j = i
    · subst hji; exact hy.wpOp hi hF ⟨hF, H⟩
    · have := ready_mono hj hji; rw [H.1] at this
      cases this
  | succ fuel ih =>
    intro listed a w hF hfree hr hy H; refine ⟨fun h => (by rw [h] at hr; cases hr), fun j hj => ?_⟩
    by_cases hji : j = i
    · subst hji; exact hy.wpOp hi hF ⟨hF, H⟩
    · have h1 := H.2 j (ready_mono hj hji); obtain ⟨hjun, oj, hoj, hall⟩ := mem_ready.1 hj
      have hnot : ∀ e ∈ oj.after, Region.binds md e = true → e.on ≠ i := fun e he hb heq => by
        have h1 := hall e he hb; have h0 := (mem_ready.1 hr).1; rw [heq] at h1
        rcases Nat.lt_or_ge i listed.size with h' | h'
        · simp [h'] at h0 h1; rw [h0] at h1; cases h1
        · simp [Array.getElem?_eq_none h'] at h1
      have h2 := wpOp_putF hoj (hfree j oj hoj hji hjun hnot) (fun cs b => hsel i oi cs b hi) (fun cs b => hsel j oj cs b hoj) hy h1
      have hfree' : ∀ k ok, ops[k]? = some ok → k ≠ i → (listed.setIfInBounds j true).getD k true = false →
          (∀ e ∈ ok.after, Region.binds md e = true → e.on ≠ i) → oi.apart ops ok = true := fun k ok hk hki hun hno => by
        refine hfree k ok hk hki ?_ hno
        by_cases hjk : j = k
        · subst hjk; exact hjun
        · rw [getD_set_ne true hjk] at hun; exact hun
      refine wpOp_mono (fun a' w' h3 => ⟨h3.2.1, ih (listed.setIfInBounds j true) a' w' h3.2.1 hfree' (ready_mono hr (Ne.symm hji)) h3.1 ?_⟩) h2; rw [Array.setIfInBounds_comm _ _ hji]; exact h3.2.2
inductive Plan where
  | nil
  | q (i : Nat) (p : Plan)
  | l (i : Nat) (p : Plan)
  | fork (p q : Plan)
def Plan.heads : Plan → List (Nat × Plan)
  | .l i p => [(i, p)]
  | .fork p p' => p.heads ++ p'.heads
  | _ => []
def planOk (md : Region.Mode) (ops : Array Oper) : Nat → Plan → Array Bool → Bool
  | 0, .nil, listed => (Region.ready md ops listed).isEmpty
  | n + 1, .q i r, listed => (Region.ready md ops listed).contains i && Region.free md ops listed i && planOk md ops n r (listed.setIfInBounds i true)
  | n + 1, .l i r, listed => (Region.ready md ops listed == [i]) && planOk md ops n r (listed.setIfInBounds i true)
  | n + 1, .fork p q, listed => !(Plan.fork p q).heads.isEmpty && (Region.ready md ops listed == (Plan.fork p q).heads.map (·.1)) && (Plan.fork p q).heads.all fun x => planOk md ops n x.2 (listed.setIfInBounds x.1 true)
  | _, _, _ => false
def PW (P : Program) (ops : Array Oper) (F : World → Prop) (Q : Act → World → Prop) : Plan → Act → World → Prop
  | .nil, a, w => Q a w
  | .q i r, a, w => ∃ o v, ops[i]? = some o ∧ YieldsF P ops F o v a ∧ PW P ops F Q r (a.put o.dst v) w
  | .l i r, a, w => ∃ o, ops[i]? = some o ∧ if Region.wanted o (yielded ops a.tmps) then o.wp P a w (fun a' w' => F w' ∧ PW P ops F Q r a' w') (onlyN Q) else PW P ops F Q r (a.put o.dst undef) w
  | .fork p q, a, w => PW P ops F Q p a w ∧ PW P ops F Q q a w
theorem PW.heads {Q : Act → World → Prop} {a : Act} {w : World} : ∀ {p : Plan}, PW P ops F Q p a w → ∀ x ∈ p.heads, PW P ops F Q (.l x.1 x.2) a w
  | .nil, _, x, hx => by simp [Plan.heads] at hx
  | .q i p, _, x, hx => by simp [Plan.heads] at hx
  | .l i p, h, x, hx => by
    simp only [Plan.heads, List.mem_singleton] at hx
    subst hx; exact h
  | .fork p q, h, x, hx => by
    simp only [Plan.heads, List.mem_append] at hx
    exact hx.elim (PW.heads h.1 x) (PW.heads h.2 x)
theorem wpAnyF_of_plan {Q : Act → World → Prop} (hs : Region.noSelect ops = true) : ∀ (n : Nat) (plan : Plan) (listed : Array Bool) (a : Act) (w : World), planOk md ops n plan listed = true → F w → PW P ops F Q plan a w →
    wpAnyF P md ops F Q n listed a w
  | 0, .nil, listed, a, w, hp, _, h => ⟨by simpa [planOk] using hp, h⟩
  | 0, .q i r, listed, a, w, hp, _, h => by simp [planOk] at hp
  | 0, .l i r, listed, a, w, hp, _, h => by simp [planOk] at hp
  | 0, .fork p q, listed, a, w, hp, _, h => by simp [planOk] at hp
  | n + 1, .nil, listed, a, w, hp, _, h => by simp [planOk] at hp
  | n + 1, .q i r, listed, a, w, hp, hF, h => by
    simp only [planOk, Bool.and_eq_true] at hp
    obtain ⟨⟨hr, hf⟩, hp'⟩ := hp; obtain ⟨o, v, ho, hy, hK⟩ := h; exact wpAnyF_first ho (Region.noSelect_spec hs) n listed a w hF (Region.free_spec ho hf) (by simpa using hr) hy (wpAnyF_of_plan hs n r _ _ w hp' hF hK)
  | n + 1, .l i r, listed, a, w, hp, hF, h => by
    simp only [planOk, Bool.and_eq_true, beq_iff_eq] at hp
    obtain ⟨hr, hp'⟩ := hp; obtain ⟨o, ho, hK⟩ := h
    show _ ∧ _
    rw [hr]; refine ⟨fun h => absurd h (by simp), fun j hj => ?_⟩
    obtain rfl : j = i := by simpa using hj
    unfold wpOp
    simp only [ho]
    split
    · rename_i hw
      rw [if_pos hw] at hK; exact .inl (Oper.wp_mono (fun a' w' h' => ⟨h'.1, wpAnyF_of_plan hs n r _ a' w' hp' h'.1 h'.2⟩) hK)
    · rename_i hw
      rw [if_neg hw] at hK; exact ⟨hF, wpAnyF_of_plan hs n r _ _ w hp' hF hK⟩
  | n + 1, .fork p q, listed, a, w, hp, hF, h => by
    simp only [planOk, Bool.and_eq_true, beq_iff_eq, List.all_eq_true, Bool.not_eq_true', List.isEmpty_eq_false_iff] at hp
    obtain ⟨⟨hne, hr⟩, hp'⟩ := hp; have hh := PW.heads h
    generalize (Plan.fork p q).heads = hd at hr hp' hh hne
    refine ⟨fun hm => ?_, fun j hj => ?_⟩
    · rw [hr] at hm; exact absurd (by simpa using hm) hne
    · rw [hr] at hj; obtain ⟨x, hx, rfl⟩ := List.mem_map.1 hj; obtain ⟨o, ho, hK⟩ := hh x hx; have hpx := hp' x hx; unfold wpOp
      simp only [ho]
      split
      · rename_i hw
        rw [if_pos hw] at hK; exact .inl (Oper.wp_mono (fun a' w' h' => ⟨h'.1, wpAnyF_of_plan hs n x.2 _ a' w' hpx h'.1 h'.2⟩) hK)
      · rename_i hw
        rw [if_neg hw] at hK; exact ⟨hF, wpAnyF_of_plan hs n x.2 _ _ w hpx hF hK⟩
end
def DRW (P : Program) (N : Nat) (ops : Array Oper) (F : World → Prop) (Q : Act → World → Prop) (plan : Plan) (l : Env) (w : World) : Prop := ∀ a, l.on N a → PW P ops F Q plan a w
section
variable {P : Program} {N : Nat} {ops : Array Oper} {F : World → Prop} {Q : Exit → Act → World → Prop} {Qn : Act → World → Prop} {plan : Plan} {l : Env} {w : World}
theorem CW.draw {id : Nat} {os : List Oper} (F : World → Prop) (plan : Plan) (hm : P.follows .mixedOrders = true) (hp : (Region.noSelect os.toArray && planOk .any os.toArray os.length plan (Array.replicate os.length false)) = true)
    (hF : F { w with drawn := w.drawn + 1 }) (h : DRW P N os.toArray F (fun a w => Q .normal a w) plan l { w with drawn := w.drawn + 1 }) : CW P N Q (.region id os.toArray true) l w := fun a ha => by
  simp only [Bool.and_eq_true, beq_iff_eq] at hp
  refine wp_region_any hm (wpAny_of_F (F := F) (Q := fun a w => Q .normal a w) (fun _ _ h => h) _ _ _ _ ?_); have := wpAnyF_of_plan (P := P) (F := F) (md := .any) hp.1 os.length plan (Array.replicate os.length false) a _ hp.2 hF (h a ha)
  simpa using this
theorem DRW.done (h : AQ N Q .normal l w) : DRW P N ops F (fun a w => Q .normal a w) .nil l w := fun a ha => h a ha
theorem DRW.fork {p q : Plan} (h1 : DRW P N ops F Qn p l w) (h2 : DRW P N ops F Qn q l w) : DRW P N ops F Qn (.fork p q) l w := fun a ha => ⟨h1 a ha, h2 a ha⟩
theorem DRW.weak {l' : Env} (hs : Env.sub l' l) (h : DRW P N ops F Qn plan l' w) : DRW P N ops F Qn plan l w := fun a ha => h a (Env.on_sub hs ha)
theorem DRW.q {i d : Nat} {o : Op} {ty : TypeId} {pos : String} {after : Array Edge} {v : Value} (ho : ops[i]? = some ⟨some d, o, ty, pos, after, none⟩) (hd : Nat.blt d N = true)
    (hr : ∀ w', F w' → Runs P o ty l w' (.value v) w') (h : DRW P N ops F Qn plan ((d, v) :: l) w) : DRW P N ops F Qn (.q i plan) l w := fun a ha =>
  ⟨_, v, ho, .inl ⟨rfl, fun w' hw' => hr w' hw' a.eval (fun x v => ev_on ha) (some d) pos after none⟩, h _ (Env.on_put hd ha)⟩
theorem DRW.q_on {i d g t : Nat} {o : Op} {ty : TypeId} {pos : String} {after : Array Edge} {v : Value} {want b : Bool} (ho : ops[i]? = some ⟨some d, o, ty, pos, after, some (g, want)⟩) (ht : (ops[g]?).bind (·.dst) = some t) (hv : l.get t = some (.bool b)) (htN : Nat.blt t N = true) (hb : b = want) (hd : Nat.blt d N = true)
    (hr : ∀ w', F w' → Runs P o ty l w' (.value v) w') (h : DRW P N ops F Qn plan ((d, v) :: l) w) : DRW P N ops F Qn (.q i plan) l w := fun a ha =>
  ⟨_, v, ho, .inl ⟨by rw [wanted_of ha rfl ht hv htN, hb]; exact beq_self_eq_true _, fun w' hw' => hr w' hw' a.eval (fun x v => ev_on ha) (some d) pos after _⟩, h _ (Env.on_put hd ha)⟩
theorem DRW.q_off {i d g t : Nat} {o : Op} {ty : TypeId} {pos : String} {after : Array Edge} {want b : Bool} (ho : ops[i]? = some ⟨some d, o, ty, pos, after, some (g, want)⟩) (ht : (ops[g]?).bind (·.dst) = some t) (hv : l.get t = some (.bool b)) (htN : Nat.blt t N = true) (hb : b = !want) (hd : Nat.blt d N = true)
    (h : DRW P N ops F Qn plan ((d, undef) :: l) w) : DRW P N ops F Qn (.q i plan) l w := fun a ha =>
  ⟨_, undef, ho, .inr ⟨by rw [wanted_of ha rfl ht hv htN, hb]; cases want <;> rfl, rfl⟩, h _ (Env.on_put hd ha)⟩
theorem DRW.opE {i d : Nat} {o : Op} {ty : TypeId} {pos : String} {after : Array Edge} {Φ : Value → World → Prop} (ho : ops[i]? = some ⟨some d, o, ty, pos, after, none⟩) (hd : Nat.blt d N = true)
    (hr : ∃ v w', Runs P o ty l w (.value v) w' ∧ Φ v w') (h : ∀ v w', Φ v w' → F w' ∧ DRW P N ops F Qn plan ((d, v) :: l) w') : DRW P N ops F Qn (.l i plan) l w := fun a ha => by
  obtain ⟨v, w', h1, h2⟩ := hr; obtain ⟨h3, h4⟩ := h v w' h2; refine ⟨_, ho, ?_⟩; rw [if_pos (by rfl)]; unfold Oper.wp; rw [h1 a.eval (fun x v => ev_on ha) (some d) pos after none]; exact ⟨h3, h4 _ (Env.on_put hd ha)⟩
theorem DRW.op1 {i d : Nat} {o : Op} {ty : TypeId} {pos : String} {after : Array Edge} {v : Value} {w' : World} (ho : ops[i]? = some ⟨some d, o, ty, pos, after, none⟩) (hd : Nat.blt d N = true)
    (hr : Runs P o ty l w (.value v) w') (hF : F w') (h : DRW P N ops F Qn plan ((d, v) :: l) w') : DRW P N ops F Qn (.l i plan) l w :=
  DRW.opE (Φ := fun u w'' => u = v ∧ w'' = w') ho hd ⟨v, w', hr, rfl, rfl⟩ fun _ _ ⟨e1, e2⟩ => by subst e1; subst e2; exact ⟨hF, h⟩
theorem y0 {i : Nat} {o : Op} {ty : TypeId} {pos : String} {after : Array Edge} {Φ : World → Prop} (ho : ops[i]? = some ⟨none, o, ty, pos, after, none⟩)
    (hr : ∃ w', Runs P o ty l w .skip w' ∧ Φ w') (h : ∀ w', Φ w' → F w' ∧ DRW P N ops F Qn plan l w') : DRW P N ops F Qn (.l i plan) l w := fun a ha => by
  obtain ⟨w', h1, h2⟩ := hr; obtain ⟨h3, h4⟩ := h w' h2; refine ⟨_, ho, ?_⟩; rw [if_pos (by rfl)]; unfold Oper.wp; rw [h1 a.eval (fun x v => ev_on ha) none pos after none]; exact ⟨h3, h4 _ ha⟩
theorem DRW.opE0v {i : Nat} {o : Op} {ty : TypeId} {pos : String} {after : Array Edge} {Φ : Value → World → Prop} (ho : ops[i]? = some ⟨none, o, ty, pos, after, none⟩)
    (hr : ∃ v w', Runs P o ty l w (.value v) w' ∧ Φ v w') (h : ∀ v w', Φ v w' → F w' ∧ DRW P N ops F Qn plan l w') : DRW P N ops F Qn (.l i plan) l w := fun a ha => by
  obtain ⟨v, w', h1, h2⟩ := hr; obtain ⟨h3, h4⟩ := h v w' h2; refine ⟨_, ho, ?_⟩; rw [if_pos (by rfl)]; unfold Oper.wp; rw [h1 a.eval (fun x v => ev_on ha) none pos after none]; exact ⟨h3, h4 _ ha⟩
theorem yC {i d : Nat} {f : FuncId} {fo : Operand} {args : List Operand} {ats : Array TypeId} {ty : TypeId} {pos : String} {after : Array Edge} {vs : List Value} {R : Ending → World → Prop}
    (ho : ops[i]? = some ⟨some d, .call ⟨.value fo, args.toArray, ats⟩, ty, pos, after, none⟩) (hd : Nat.blt d N = true) (hf : Callable P f) (hfo : ev l fo = some (.func (.func f) #[] #[])) (ha : evs l args = some vs) (hc : Calls P f vs.toArray w R)
    (h : ∀ e w', R e w' → ∃ v, e = .returned v ∧ F w' ∧ DRW P N ops F Qn plan ((d, v) :: l) w') : DRW P N ops F Qn (.l i plan) l w := fun a hon => by
  refine ⟨_, ho, ?_⟩; rw [if_pos (by rfl)]; unfold Oper.wp; rw [runs_call hf hfo ha a.eval (fun x v => ev_on hon) (some d) pos after none]
  refine hc.mono fun e w' he => ?_
  obtain ⟨v, rfl, h1, h2⟩ := h e w' he; exact ⟨h1, h2 _ (Env.on_put hd hon)⟩
end
end Go.Proofs.YtadgbifmiooikaaGreatX
namespace Go.Proofs.YtadgbifmiooikaaGreatX
set_option linter.unusedVariables false
set_option linter.unusedSimpArgs false
open Go Go.RowKit
variable {w0 w : World} {I : Imm} {L : Own} {P : Program} {l : Env} {ty : TypeId}
def slPtr (v : Value) (k : Nat) : Addr := match v with
  | .slice (some a) _ _ => a.add k
  | _ => ⟨0, 0, none⟩
def partV (v : Value) (lo hi size : Nat) : Value := match v with
  | .slice A _ c => sliced A lo hi c size
  | v => v
theorem RdL.cell {size n : Nat} {v : Value} {xs : List Value} (h : RdL I size v n xs) {k : Nat} {u : Value} (hk : xs[k]? = some u) : I.cell? (slPtr v k) = some u := by
  obtain ⟨_, _, A, cap, rfl, _, h4⟩ := h; obtain ⟨a, rfl, h5⟩ := h4 k u hk; exact h5
theorem RdL.indexAddr {t e : TypeId} {x y : Operand} {v : Value} {n : Nat} {xs : List Value} {k : IntKind} {i : Int} {z : Value} {size bytes : Nat} (ht : P.underlying t = some (.slice e)) (he : TI P e z size bytes) (h0 : 0 < size) (hx : ev l x = some v) (hy : ev l y = some (.int k i))
    (hr : RdL I size v n xs) (h : 0 ≤ i ∧ i < n) : Runs P (.indexAddr t x y) ty l w (.value (.pointer (some (slPtr v (i.toNat * size))))) w := by
  obtain ⟨h1, _, A, cap, rfl, _, h4⟩ := hr
  have hlt : i.toNat * size < xs.length := by
    rw [h1]; exact Nat.mul_lt_mul_of_pos_right (by omega) h0
  obtain ⟨a, rfl, _⟩ := h4 (i.toNat * size) xs[i.toNat * size] (by simp [hlt]); exact runs_indexAddr ht he hx hy h
theorem RdL.len {t e : TypeId} {x : Operand} {v : Value} {size n : Nat} {xs : List Value} (ht : P.underlying t = some (.slice e)) (hx : ev l x = some v) (hr : RdL I size v n xs) : Runs P (.call ⟨.builtin .len, #[x], #[t]⟩) ty l w (.value (.int .i64 n)) w := by
  obtain ⟨_, _, A, cap, rfl, _, _⟩ := hr; exact runs_lenL ht hx
theorem RdL.partV {size n : Nat} {v : Value} {xs : List Value} (h : RdL I size v n xs) {lo hi : Nat} (h1 : lo ≤ hi) (h2 : hi ≤ n) : RdL I size (partV v lo hi size) (hi - lo) ((xs.drop (lo * size)).take ((hi - lo) * size)) := by
  obtain ⟨h3, h0, A, cap, rfl, h5, h6⟩ := h; exact RdL.part ⟨h3, h0, A, cap, rfl, h5, h6⟩ h1 h2
theorem RdL.slice_lh {t e : TypeId} {x y y' : Operand} {v : Value} {n : Nat} {xs : List Value} {k k' : IntKind} {lo hi : Int} {z : Value} {size bytes : Nat} (ht : P.underlying t = some (.slice e)) (he : TI P e z size bytes) (hx : ev l x = some v)
    (hy : ev l y = some (.int k lo)) (hy' : ev l y' = some (.int k' hi)) (hr : RdL I size v n xs) (h : 0 ≤ lo ∧ lo ≤ hi ∧ hi ≤ n) : Runs P (.slice t x (some y) (some y') none) ty l w (.value (Go.Proofs.YtadgbifmiooikaaGreatX.partV v lo.toNat hi.toNat size)) w := by
  obtain ⟨_, _, A, cap, rfl, h5, _⟩ := hr; exact runs_slice_lh ht he hx hy hy' (by omega)
theorem RdL.slice_l {t e : TypeId} {x y : Operand} {v : Value} {n : Nat} {xs : List Value} {k : IntKind} {lo : Int} {z : Value} {size bytes : Nat} (ht : P.underlying t = some (.slice e)) (he : TI P e z size bytes) (hx : ev l x = some v)
    (hy : ev l y = some (.int k lo)) (hr : RdL I size v n xs) (h : 0 ≤ lo ∧ lo ≤ n) : Runs P (.slice t x (some y) none none) ty l w (.value (Go.Proofs.YtadgbifmiooikaaGreatX.partV v lo.toNat n size)) w := by
  obtain ⟨_, _, A, cap, rfl, h5, _⟩ := hr; exact runs_slice_l ht he hx hy h
theorem RdL.slice_h {t e : TypeId} {x y' : Operand} {v : Value} {n : Nat} {xs : List Value} {k' : IntKind} {hi : Int} {z : Value} {size bytes : Nat} (ht : P.underlying t = some (.slice e)) (he : TI P e z size bytes) (hx : ev l x = some v)
    (hy' : ev l y' = some (.int k' hi)) (hr : RdL I size v n xs) (h : 0 ≤ hi ∧ hi ≤ n) : Runs P (.slice t x none (some y') none) ty l w (.value (Go.Proofs.YtadgbifmiooikaaGreatX.partV v 0 hi.toNat size)) w := by
  obtain ⟨_, _, A, cap, rfl, h5, _⟩ := hr; exact runs_slice_h ht he hx hy' (by omega)
theorem runs_eq_nilslice {t t' e : TypeId} {x : Operand} {A : Option Addr} {n c : Nat} (ht : P.underlying t = some (.slice e)) (hx : ev l x = some (.slice A n c)) :
    Runs P (.binOp .eql t x (.const (.slice none 0 0)) t') ty l w (.value (.bool A.isNone)) w :=
  .of (fun ρ => do eqGuard .eql t x (.const (.slice none 0 0)) (ρ x) (ρ (.const (.slice none 0 0))); binOp .eql t (ρ x) (ρ (.const (.slice none 0 0)))) (fun _ _ _ _ _ => rfl) fun ρ hρ => by
    have h2 : ρ (.const (.slice none 0 0)) = .slice none 0 0 := hρ _ _ rfl; have hg : (eqGuard .eql t x (.const (.slice none 0 0)) (.slice A n c) (.slice none 0 0)).run P w = .ok () w := rfl
    have he : (Op.equal t (.slice A n c) (.slice none 0 0)).run P w = .ok A.isNone w := by
      unfold Op.equal Op.maxDepth; unfold Op.equalIn
      cases A <;> simp only [Sem.run_bind, run_underlying ht, Result.andThen] <;> rfl
    simp only [hρ x _ hx, h2, Sem.run_bind, hg, Result.andThen]
    unfold binOp
    simp only [Sem.run_bind, he, Result.andThen]
    rfl
def b8 (c : UInt8) : Value := .int .u8 c.toNat
def i64 (n : Int) : Value := .int .i64 n
abbrev RdB (I : Imm) (v : Value) (bs : List UInt8) : Prop := RdL I 1 v bs.length (bs.map b8)
abbrev RdI (I : Imm) (v : Value) (xs : List Int) : Prop := RdL I 1 v xs.length (xs.map i64)
def bat (bs : List UInt8) (i : Int) : Int := ((bs.getD i.toNat 0).toNat : Int)
def iat (xs : List Int) (i : Int) : Int := xs.getD i.toNat 0
theorem RdB.at {v : Value} {bs : List UInt8} {i : Int} (h : RdB I v bs) (h0 : 0 ≤ i) (h1 : i < bs.length) : I.cell? (slPtr v (i.toNat * 1)) = some (.int .u8 (bat bs i)) := by
  refine RdL.cell h ?_
  have : i.toNat < bs.length := by omega
  simp [bat, b8, this]
theorem RdI.at {v : Value} {xs : List Int} {i : Int} (h : RdI I v xs) (h0 : 0 ≤ i) (h1 : i < xs.length) : I.cell? (slPtr v (i.toNat * 1)) = some (.int .i64 (iat xs i)) := by
  refine RdL.cell h ?_
  have : i.toNat < xs.length := by omega
  simp [iat, i64, this]
theorem bat_lt (bs : List UInt8) (i : Int) : 0 ≤ bat bs i ∧ bat bs i ≤ 255 := by
  unfold bat; have := (bs.getD i.toNat 0).toNat_lt; omega
theorem RdB.part {v : Value} {bs : List UInt8} (h : RdB I v bs) {lo hi : Nat} (h1 : lo ≤ hi) (h2 : hi ≤ bs.length) : RdB I (partV v lo hi 1) ((bs.drop lo).take (hi - lo)) := by
  have := RdL.partV h h1 h2
  simp only [Nat.mul_one] at this
  unfold RdB; rw [List.map_take, List.map_drop]
  have e : ((bs.drop lo).take (hi - lo)).length = hi - lo := by rw [List.length_take, List.length_drop]; omega
  rw [e]; exact this
theorem b8_one (bs : List UInt8) : ∀ u ∈ bs.map b8, u.oneCell' = true := fun u hu => by
  obtain ⟨c, _, rfl⟩ := List.mem_map.1 hu; rfl
abbrev GrowB (e : TypeId) (v : Value) (bs : List UInt8) (Lv : Own) : Prop := Grow e 1 v bs.length (bs.map b8) Lv
theorem GrowB.freeze {e : TypeId} {v : Value} {bs : List UInt8} {Lv : Own} (hg : GrowB e v bs Lv) (h : St w0 w I (Lv ++ L)) : ∃ I', I.le I' ∧ St w0 w I' L ∧ RdB I' v bs := Grow.freeze hg h
theorem GrowB.nil (e : TypeId) : GrowB e (.slice none 0 0) [] [] := Grow.nil e 1
theorem runs_appendB {t e : TypeId} (ht : P.underlying t = some (.slice e)) (he : TI P e (.int .u8 0) 1 1) {x y : Operand} {v u : Value} {bs news : List UInt8} {Lv : Own} (hx : ev l x = some v) (hy : ev l y = some u)
    (hst : St w0 w I (Lv ++ L)) (hg : GrowB e v bs Lv) (hr : RdB I u news) (hb : bs.length + news.length ≤ 140737488355328) :
    ∃ v' w', Runs P (.call ⟨.builtin .append, #[x, y], #[t, t]⟩) ty l w (.value v') w' ∧ ∃ Lv', St w0 w' I (Lv' ++ L) ∧ GrowB e v' (bs ++ news) Lv' := by
  obtain ⟨v', w', h1, Lv', h2, h3⟩ := runs_appendR (ty := ty) ht he rfl (by decide) hx hy hst hg hr (by omega) (by unfold maxLen; omega); exact ⟨v', w', h1, Lv', h2, by rw [GrowB, List.length_append, List.map_append]; exact h3⟩
theorem runs_fieldAddr0 {x : Operand} {s f b off : Nat} {fields : Array Field} {fd : Field} {z : Value} {size bytes : Nat} (h : ev l x = some (.pointer (some ⟨b, off, none⟩))) (hs : P.underlying s = some (.struct fields)) (hf : fields[f]? = some fd)
    (ht : TI P fd.type z size bytes) (hz : size ≠ 0) : Runs P (.fieldAddr s x f) ty l w (.value (.pointer (some ⟨b, off + fd.offset, none⟩))) w := by
  have := runs_fieldAddr (w := w) (ty := ty) h hs hf ht hz
  rwa [add_lit] at this
theorem runs_store1' {x y : Operand} {S : TypeId} {z : Value} {bytes : Nat} {k b off : Nat} {cs : Array Value} {T : TypeId} {fz : Nat × Nat} {v : Value} (ht : TI P S z 1 bytes) (hx : ev l x = some (.pointer (some ⟨b, off, none⟩))) (hy : ev l y = some v) (hst : St w0 w I L)
    (hL : L[k]? = some (b, .cells cs T fz)) (hoff : off < cs.size) (hfz : NoFz cs.size fz) (hv : v.oneCell' = true) :
    ∃ w', Runs P (.store S x y) ty l w .skip w' ∧ St w0 w' I (L.set k (b, .cells (cs.setIfInBounds off v) T fz)) := runs_store1 ht hx hy hst hL hoff hfz hv
end Go.Proofs.YtadgbifmiooikaaGreatX
namespace Go.Proofs.YtadgbifmiooikaaGreatX
set_option linter.unusedVariables false
set_option linter.unusedSimpArgs false
open Go Go.RowKit
variable {w0 w : World} {I : Imm} {L : Own} {P : Program} {l : Env} {ty : TypeId}
theorem zi {N : Nat} {ops : Array Oper} {Q : Exit → Act → World → Prop} {rest : List Oper} {t : Nat} {b : Bool} (hv : l.get t = some (.bool b)) (h1 : b = true → RW P N ops Q rest l w) (h2 : b = false → RW P N ops Q rest l w) : RW P N ops Q rest l w := by
  cases b
  · exact h2 rfl
  · exact h1 rfl
theorem wanted_undef {l : Env} {a : Act} {N : Nat} {ops : Array Oper} (ha : l.on N a) {o : Oper} {g t : Nat} {want : Bool} (hg : o.guard = some (g, want)) (ht : (ops[g]?).bind (·.dst) = some t)
    (hv : l.get t = some undef) (htN : Nat.blt t N = true) : Region.wanted o (yielded ops a.tmps) = false := by
  have hsz := ha.1; have h1 := ha.2.2 t _ hv
  have htN' : t < a.tmps.size := by rw [hsz]; simpa [Nat.blt_eq] using htN
  have h2 : a.tmps[t]? = some undef := by
    rw [Array.getD_eq_getD_getElem?] at h1; rw [Array.getElem?_eq_getElem htN'] at h1 ⊢
    simpa using h1
  unfold Region.wanted
  simp only [hg, yielded, ht, Option.bind_some, h2]
  rfl
theorem zu {N : Nat} {ops : Array Oper} {Q : Exit → Act → World → Prop} {rest : List Oper} {d g t : Nat} {o : Op} {ty : TypeId} {pos : String} {after : Array Edge} {want : Bool} (ht : (ops[g]?).bind (·.dst) = some t) (hv : l.get t = some undef) (htN : Nat.blt t N = true) (hd : Nat.blt d N = true)
    (h : RW P N ops Q rest ((d, undef) :: l) w) : RW P N ops Q (⟨some d, o, ty, pos, after, some (g, want)⟩ :: rest) l w := fun a ha => by
  unfold wpList; rw [wanted_undef ha rfl ht hv htN]; exact h _ (Env.on_put hd ha)
theorem DRW.split {N : Nat} {ops : Array Oper} {F : World → Prop} {Q : Act → World → Prop} {plan : Plan} {t : Nat} {b : Bool} (hv : l.get t = some (.bool b)) (h1 : b = true → DRW P N ops F Q plan l w) (h2 : b = false → DRW P N ops F Q plan l w) : DRW P N ops F Q plan l w := by
  cases b
  · exact h2 rfl
  · exact h1 rfl
theorem runs_indexAddr0 {t e : TypeId} {x y : Operand} {b off n c : Nat} {k : IntKind} {i : Int} {z : Value} {size bytes : Nat} (ht : P.underlying t = some (.slice e)) (he : TI P e z size bytes) (hx : ev l x = some (.slice (some ⟨b, off, none⟩) n c)) (hy : ev l y = some (.int k i))
    (h : 0 ≤ i ∧ i < n) : Runs P (.indexAddr t x y) ty l w (.value (.pointer (some ⟨b, off + i.toNat * size, none⟩))) w := by
  have := runs_indexAddr (w := w) (ty := ty) ht he hx hy h
  rwa [add_lit] at this
theorem madeCells_one (z : Value) (hz : z.cells = #[z]) (n : Nat) : madeCells z.cells n = (List.replicate n z).toArray := by
  rw [hz]; unfold madeCells
  apply Array.ext
  · simp
  · intro i h1 h2
    simp only [List.getElem_toArray, List.getElem_replicate, Array.getElem_map, Array.getElem_range]
    simp [Nat.mod_one]
theorem runs_makeSlice {t e : TypeId} {x : Operand} {n : Nat} {z : Value} {size bytes : Nat} (ht : P.underlying t = some (.slice e)) (he : TI P e z size bytes) (hx : ev l x = some (.int .i64 (n : Int))) (hst : St w0 w I L) (hb : bytes * n ≤ 281474976710656) (hmax : n ≤ maxLen) :
    ∃ v w', Runs P (.makeSlice t x x) ty l w (.value v) w' ∧ ∃ b, v = .slice (some ⟨b, 0, none⟩) n n ∧ St w0 w' I ((b, .cells (madeCells z.cells (n * size)) e) :: L) := by
  obtain ⟨i, hi1, hi2, hi3, hi4⟩ := he.get; obtain ⟨w', h1, ⟨h2, ⟨e1, _⟩ | ⟨g, cap, cur, e1, hge, hheap, h3, h4, h5, h6⟩⟩, h7⟩ := run_make_full (P := P) w w.heap.size t e i z size ht hi1 hi2 hi3 .i64 .i64 n (by rw [hi4]; exact hb) hmax (Nat.le_refl _)
  · cases e1
  · cases e1
    refine ⟨_, w', .of (fun ρ => Instr.makeSlice t (ρ x) (ρ x)) (fun _ _ _ _ _ => rfl) fun ρ hρ => by simp only [hρ x _ hx]; exact h1, w.heap.size, rfl, ?_⟩
    have : cur = madeCells z.cells (n * size) := by
      have h8 : cur.toList = (madeCells z.cells (n * size)).toList := by
        rw [← h6, List.take_of_length_le (by simp [h5])]
      exact Array.toList_inj.1 h8
    rw [← this]; exact hst.cons_new h7 (Nat.le_refl _) hheap
theorem made_b8 (n : Nat) : madeCells (Value.int .u8 0).cells (n * 1) = ((List.replicate n (0 : UInt8)).map b8).toArray := by
  rw [Nat.mul_one, madeCells_one _ rfl, List.map_replicate]; rfl
theorem set_b8 (bs : List UInt8) (i : Nat) (c : UInt8) : (bs.map b8).toArray.setIfInBounds i (b8 c) = ((bs.set i c).map b8).toArray := by
  rw [List.map_set]
  simp
theorem RdL.of_block {e : TypeId} {b n : Nat} {cells : List Value} {size : Nat} {cs : Array Value} (hcs : cs = cells.toArray) (h : St w0 w I ((b, .cells cs e) :: L)) (hlen : cells.length = n * size) (hone : ∀ u ∈ cells, u.oneCell' = true) (hmax : n ≤ maxLen) :
    ∃ I', I.le I' ∧ St w0 w I' L ∧ RdL I' size (.slice (some ⟨b, 0, none⟩) n n) n cells := by
  subst hcs; exact Grow.freeze (e := e) (Lv := [(b, .cells cells.toArray e)]) ⟨hlen, hone, .inr ⟨b, n, cells.toArray, rfl, rfl, Nat.le_refl _, hmax, by simpa using hlen, by rw [← hlen]; simp⟩⟩ h
theorem RdB.of_block {e : TypeId} {b : Nat} {bs : List UInt8} {n : Nat} (hn : n = bs.length) (h : St w0 w I ((b, .cells (bs.map b8).toArray e) :: L)) (hmax : n ≤ maxLen) :
    ∃ I', I.le I' ∧ St w0 w I' L ∧ RdB I' (.slice (some ⟨b, 0, none⟩) n n) bs := by
  subst hn; exact RdL.of_block rfl h (by simp) (b8_one bs) hmax
theorem zeroCells_b8 (m : Nat) : Builtin.zeroCells (Value.int .u8 0).cells m = (List.replicate m (b8 0)).toArray := by
  have := madeCells_one (Value.int .u8 0) rfl m; unfold Builtin.zeroCells; rw [show (Value.int .u8 0).cells.size = 1 from rfl, Nat.mul_one]; exact this
theorem runs_appendZG {t e : TypeId} {tn : TypeId} {x y : Operand} {v : Value} {m : Nat} {bs : List UInt8} (ht : P.underlying t = some (.slice e)) (he : TI P e (.int .u8 0) 1 1) (hti : P.underlying tn = some (.int .i64)) (hx : ev l x = some v) (hy : ev l y = some (.int .i64 (m : Int)))
    (hb : bs.length + m ≤ 140737488355328) (A : Option Addr) (cap : Nat) (hv : v = .slice A bs.length cap) (hcap : cap < bs.length + m) (hfo : (Builtin.firstCells 1 bs.length (.slice A bs.length cap)).run P w.drew = .ok (bs.map b8).toArray w.drew) (hst' : St w0 w I L) :
    ∃ v' w', Runs P (.call ⟨.builtin .append, #[x, y], #[t, tn]⟩) ty l w (.value v') w' ∧ ∃ Lv', St w0 w' I (Lv' ++ L) ∧ GrowB e v' (bs ++ List.replicate m 0) Lv' := by
  have hbi : ∀ {v' w'}, (Builtin.append_ #[t, tn] ty #[v, .int .i64 m]).run P w = .ok v' w' → Runs P (.call ⟨.builtin .append, #[x, y], #[t, tn]⟩) ty l w (.value v') w' := fun {v' w'} h =>
    Runs.bi (args := [x, y]) (vs := [v, .int .i64 m]) (by simp [evs, hx, hy]) fun consts => by simp only [builtin, Sem.run_bind, h]; rfl
  obtain ⟨i, hi, hz, hs, hby⟩ := he.get
  have hw : IntKind.i64.wrap (m : Int) = m := by rw [IntKind.wrap_i64]; omega
  have hw0 : IntKind.i64.wrap 0 = 0 := by rw [IntKind.wrap_i64]; rfl
  have hneg : ¬ ((m : Int) < 0) := by omega
  have hbig : ¬ (281474976710656 < (m : Int)) := by omega
  obtain ⟨news, hnews⟩ : ∃ news, news = List.replicate m (b8 0) := ⟨_, rfl⟩
  have hna : Builtin.zeroCells (Value.int .u8 0).cells m = news.toArray := by rw [hnews, zeroCells_b8]
  have hl : news.length = m := by rw [hnews, List.length_replicate]
  have hone : ∀ u ∈ news, u.oneCell' = true := fun u hu => by rw [hnews] at hu; rw [(List.mem_replicate.1 hu).2]; rfl
  have hlen : (bs ++ List.replicate m 0).length = bs.length + m := by simp
  have hmap : (bs ++ List.replicate m 0).map b8 = bs.map b8 ++ news := by rw [List.map_append, List.map_replicate, hnews]
  have hones : ∀ u ∈ bs.map b8 ++ news, u.oneCell' = true := fun u hu => (List.mem_append.1 hu).elim (b8_one bs u) (hone u)
  have hmax : bs.length + m ≤ maxLen := by unfold maxLen; omega
  have hn : ¬ (bs.length + m ≤ cap) := by omega
  have h63' : ¬ (9223372036854775807 < ((bs.length : Int) + (m : Int))) := by omega
  have hfit := growslice_fits hcap (bytes := 1) (by omega)
  have h48' : ¬ (281474976710656 < Builtin.nextslicecap (bs.length + m) cap) := by omega
  have hge := grownCap_ge w (bs.length + m) cap e; have hcm : grownCap w (bs.length + m) cap e ≤ maxLen := grownCap_le_maxLen w (bs.length + m) cap e hmax
  have hrun : (Builtin.append_ #[t, tn] ty #[v, .int .i64 m]).run P w = .ok (.slice (some ⟨w.heap.size, 0, none⟩) (bs.length + m) (grownCap w (bs.length + m) cap e))
      (w.drew.alloc (.cells ((bs.map b8).toArray ++ news.toArray ++ Builtin.zeroCells (Value.int .u8 0).cells (grownCap w (bs.length + m) cap e - (bs.length + m))) e)) := by
    subst hv
    by_cases hm : m = 0
    · have hnl : news = [] := List.eq_nil_of_length_eq_zero (by omega); subst hm; rw [hnl]
      simp only [Nat.add_zero] at hn h63' h48' ⊢
      have h63'' : ¬ (9223372036854775807 < (bs.length : Int)) := by omega
      simp [Builtin.append_, run_underlying ht, run_underlying hti, sizeOf, typeInfo, zeroValue, hi, hz, hs, hby, asInt, asIntOf, hw0, hn, h63'', h48', Question.forced, hfo, newRow, grownCap]
    · simp [Builtin.append_, run_underlying ht, run_underlying hti, sizeOf, typeInfo, zeroValue, hi, hz, hs, hby, asInt, asIntOf, hw, hneg, hbig, hn, h63', h48', Question.forced, hfo, newRow, grownCap, hm, hna]
      congr 2
      apply Array.ext'
      simp [List.append_assoc]
  have hg' : GrowB e (.slice (some ⟨w.heap.size, 0, none⟩) (bs.length + m) (grownCap w (bs.length + m) cap e)) (bs ++ List.replicate m 0) [(w.heap.size, .cells ((bs.map b8).toArray ++ news.toArray ++ Builtin.zeroCells (Value.int .u8 0).cells (grownCap w (bs.length + m) cap e - (bs.length + m))) e)] := by
    unfold GrowB; rw [hlen, hmap]; refine ⟨by simp [hl], hones, .inr ⟨_, _, _, rfl, rfl, hge, hcm, ?_, ?_⟩⟩
    · rw [zeroCells_b8]; simp [hl]; omega
    · have : (bs.map b8 ++ news).length = (bs.length + m) * 1 := by simp [hl]
      simp only [Array.toList_append, List.append_assoc]
      rw [← List.append_assoc, ← this]; exact List.take_left
  exact ⟨_, _, hbi hrun, _, hst'.drewN.heap_new _, hg'⟩
theorem runs_appendZ {t e : TypeId} {tn : TypeId} {x y : Operand} {v : Value} {m : Nat} {bs : List UInt8} {Lv : Own} (ht : P.underlying t = some (.slice e)) (he : TI P e (.int .u8 0) 1 1) (hti : P.underlying tn = some (.int .i64)) (hx : ev l x = some v) (hy : ev l y = some (.int .i64 (m : Int)))
    (hst : St w0 w I (Lv ++ L)) (hg : GrowB e v bs Lv) (hb : bs.length + m ≤ 140737488355328) :
    ∃ v' w', Runs P (.call ⟨.builtin .append, #[x, y], #[t, tn]⟩) ty l w (.value v') w' ∧ ∃ Lv', St w0 w' I (Lv' ++ L) ∧ GrowB e v' (bs ++ List.replicate m 0) Lv' := by
  have hbi : ∀ {v' w'}, (Builtin.append_ #[t, tn] ty #[v, .int .i64 m]).run P w = .ok v' w' → Runs P (.call ⟨.builtin .append, #[x, y], #[t, tn]⟩) ty l w (.value v') w' := fun {v' w'} h =>
    Runs.bi (args := [x, y]) (vs := [v, .int .i64 m]) (by simp [evs, hx, hy]) fun consts => by simp only [builtin, Sem.run_bind, h]; rfl
  obtain ⟨i, hi, hz, hs, hby⟩ := he.get
  have hw : IntKind.i64.wrap (m : Int) = m := by rw [IntKind.wrap_i64]; omega
  have hw0 : IntKind.i64.wrap 0 = 0 := by rw [IntKind.wrap_i64]; rfl
  have hneg : ¬ ((m : Int) < 0) := by omega
  have hbig : ¬ (281474976710656 < (m : Int)) := by omega
  obtain ⟨news, hnews⟩ : ∃ news, news = List.replicate m (b8 0) := ⟨_, rfl⟩
  have hna : Builtin.zeroCells (Value.int .u8 0).cells m = news.toArray := by rw [hnews, zeroCells_b8]
  have hl : news.length = m := by rw [hnews, List.length_replicate]
  have hone : ∀ u ∈ news, u.oneCell' = true := fun u hu => by rw [hnews] at hu; rw [(List.mem_replicate.1 hu).2]; rfl
  have hlen : (bs ++ List.replicate m 0).length = bs.length + m := by simp
  have hmap : (bs ++ List.replicate m 0).map b8 = bs.map b8 ++ news := by rw [List.map_append, List.map_replicate, hnews]
  have hones : ∀ u ∈ bs.map b8 ++ news, u.oneCell' = true := fun u hu => (List.mem_append.1 hu).elim (b8_one bs u) (hone u)
  have hmax : bs.length + m ≤ maxLen := by unfold maxLen; omega
  have grows := fun A cap hv hcap hfo hst' => runs_appendZG (P := P) (l := l) (ty := ty) (w := w) (w0 := w0) (I := I) (L := L) ht he hti hx hy hb A cap hv hcap hfo hst'
  obtain ⟨hxl, hxo, ⟨rfl, hb0, rfl⟩ | ⟨g, cap, cur, rfl, rfl, h3, h4, h5, h6⟩⟩ := hg
  · have hbs : bs = [] := List.eq_nil_of_length_eq_zero hb0; subst hbs
    by_cases hm : m = 0
    · subst hm; refine ⟨_, _, hbi (v' := .slice none 0 0) (w' := w) ?_, [], hst, by simpa using GrowB.nil e⟩
      simp [Builtin.append_, run_underlying ht, run_underlying hti, sizeOf, typeInfo, hi, asInt, asIntOf, hw0]
    · exact grows none 0 rfl (by simp; omega) rfl (by simpa using hst)
  · by_cases hroom : bs.length + m ≤ cap
    · obtain ⟨w', h7, h8⟩ := St.run_stores (P := P) news hst (k := 0) (b := g) (off := bs.length) rfl 0 (by rw [hl, h5]; omega) (NoFz.zero _) hone; refine ⟨_, w', hbi (v' := .slice (some ⟨g, 0, none⟩) (bs.length + m) cap) (w' := w') ?_, [(g, .cells (cur.toList.take (bs.length + 0) ++ news ++ cur.toList.drop (bs.length + 0 + news.length)).toArray e)], by simpa using h8, ?_⟩
      · by_cases hm : m = 0
        · have hnl : news = [] := List.eq_nil_of_length_eq_zero (by omega); subst hm; rw [hnl] at h7
          have h7' : w' = w := by simp [storeCells, Sem.run, pure] at h7; exact h7.symm
          subst h7'
          simp [Builtin.append_, run_underlying ht, run_underlying hti, sizeOf, typeInfo, hi, asInt, asIntOf, hw0, h3, storeCells]
        · simp [Builtin.append_, run_underlying ht, run_underlying hti, sizeOf, typeInfo, zeroValue, hi, hz, hs, hby, asInt, asIntOf, hw, hneg, hbig, hroom, hm, hna, add_lit, h7]
          try omega
      · unfold GrowB; rw [hlen, hmap]; refine ⟨by simp [hl], hones, .inr ⟨g, cap, _, rfl, rfl, hroom, h4, ?_, ?_⟩⟩
        · simp [hl, h5]; omega
        · have h9 : cur.toList.take bs.length = bs.map b8 := by simpa using h6
          simp only [Nat.add_zero, h9]
          have : (bs.map b8 ++ news).length = (bs.length + m) * 1 := by simp [hl]
          rw [← this]; exact List.take_left
    · refine grows (some ⟨g, 0, none⟩) cap rfl (by omega) (run_firstCells_some (P := P) w.drew 1 bs.length _ bs.length cap (bs.map b8) (by simp) fun j u hj => ?_) (hst.sub (by simp)); rw [add_lit, Nat.zero_add]; refine hst.drewN.cell_own (k := 0) rfl ?_; rw [← h6, List.getElem?_take] at hj
      split at hj
      · simpa using hj
      · cases hj
def strOf (bs : List UInt8) : ByteArray := ⟨bs.toArray⟩
theorem strOf_map (bs : List UInt8) : strOfNums (bs.map fun c => (c.toNat : Int)) = strOf bs := by
  unfold strOfNums strOf; rw [List.map_map]
  congr 2
  have : ((fun n : Int => UInt8.ofNat n.toNat) ∘ fun c : UInt8 => (c.toNat : Int)) = id := by funext c; simp
  rw [this, List.map_id]
theorem strOf_toList (bs : List UInt8) : (strOf bs).toList = bs := by
  simp [strOf]
theorem RdB.string {s d e : TypeId} {x : Operand} {v : Value} {bs : List UInt8} (hs : P.underlying s = some (.slice e)) (he : P.underlying e = some (.int .u8)) (hd : P.underlying d = some .string) (hx : ev l x = some v) (hr : RdB I v bs) (hst : St w0 w I L) :
    Runs P (.convert s d x) ty l w (.value (.string (strOf bs))) w :=
  .of (fun ρ => convert s d (ρ x)) (fun _ _ _ _ _ => rfl) fun ρ hρ => by
    obtain ⟨h1, h2, A, cap, rfl, h3, h4⟩ := hr; rw [hρ x _ hx]
    cases bs with
    | nil =>
      rw [run_convert_bytes_string _ _ _ _ _ _ _ hs he hd]
      cases A with
      | none => rfl
      | some a =>
        have := run_bytesToString (P := P) w a 0 cap [] (by rfl); exact this
    | cons c r =>
      obtain ⟨a, rfl, _⟩ := h4 0 (b8 c) (by simp)
      have hcells : (loadCells a (c :: r).length).run P w = .ok (((c :: r).map fun c => (c.toNat : Int)).map (Value.int .u8)).toArray w := by
        have := run_loadCells_list (P := P) w a ((c :: r).map b8) (fun j u hj => by
          obtain ⟨a', h5, h6⟩ := h4 j u hj
          cases h5
          exact hst.cell_imm h6)
        rw [List.length_map] at this; rw [this, List.map_map]
        rfl
      rw [run_convert_bytes_string _ _ _ _ _ _ _ hs he hd, run_bytesToString w a _ _ _ hcells]; rw [foldl_push_bytes, ← strOf_map]
      simp [strOfNums, ByteArray.empty, ByteArray.emptyWithCapacity]
      rfl
end Go.Proofs.YtadgbifmiooikaaGreatX
