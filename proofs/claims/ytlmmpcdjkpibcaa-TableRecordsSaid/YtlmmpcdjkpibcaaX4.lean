/- Regions that draw their order: one walk by a plan serves every order, where what comes up between only reads. Own lemmas, no program in sight. -/
import Derived.Test.YtlmmpcdjkpibcaaX3
import Derived.Still
namespace Go.Proofs.YtlmmpcdjkpibcaaX
set_option linter.unusedVariables false
set_option linter.unusedSimpArgs false
open Go Go.RowKit
section
variable {P : Program} {ops : Array Oper} {md : Region.Mode} {F : World → Prop}
/-- What is left when nothing but the normal end may come. -/
def onlyN (Q : Act → World → Prop) : Exit → Act → World → Prop
  | .normal, a, w => Q a w
  | _, _, _ => False
def wpAnyF (P : Program) (md : Region.Mode) (ops : Array Oper) (F : World → Prop) (Q : Act → World → Prop) : Nat → Array Bool → Act → World → Prop
  | 0, listed, a, w => Region.ready md ops listed = [] ∧ Q a w
  | fuel + 1, listed, a, w =>
    (Region.ready md ops listed = [] → Q a w) ∧
    ∀ i ∈ Region.ready md ops listed, wpOp P ops (onlyN Q) i (fun a' w' => F w' ∧ wpAnyF P md ops F Q fuel (listed.setIfInBounds i true) a' w') a w
theorem wpOp_mono2 {Q Q' : Exit → Act → World → Prop} {i : Nat} {a : Act} {w : World} {K K' : Act → World → Prop} (h : ∀ a w, K a w → K' a w) (hq : ∀ e a w, Q e a w → Q' e a w)
    (hh : wpOp P ops Q i K a w) : wpOp P ops Q' i K' a w := by
  unfold wpOp at *
  split
  · exact h _ _ (by simpa [*] using hh)
  · rename_i o ho
    simp only [ho] at hh
    split
    · rename_i hw; simp only [hw, if_true] at hh; exact hh.imp (Oper.wp_mono2 h hq) (fun ⟨h1, a, w, q⟩ => ⟨h1, a, w, hq _ _ _ q⟩)
    · rename_i hw; simp only [hw] at hh; exact h _ _ hh
theorem wpAny_of_F {Q : Act → World → Prop} {Q' : Exit → Act → World → Prop} (hq : ∀ a w, Q a w → Q' .normal a w) : ∀ (fuel : Nat) (listed : Array Bool) (a : Act) (w : World), wpAnyF P md ops F Q fuel listed a w → wpAny P md ops Q' fuel listed a w
  | 0, _, _, _, h => ⟨h.1, hq _ _ h.2⟩
  | fuel + 1, _, _, _, h => ⟨fun h0 => hq _ _ (h.1 h0), fun i hi => wpOp_mono2 (fun a' w' h' => wpAny_of_F hq fuel _ a' w' h'.2) (fun e a w q => by cases e <;> first | exact hq _ _ q | exact q.elim) (h.2 i hi)⟩
/-- In every world that may come: the value v, and the world as it was. -/
def YieldsF (P : Program) (ops : Array Oper) (F : World → Prop) (o : Oper) (v : Value) (a : Act) : Prop :=
  (Region.wanted o (yielded ops a.tmps) = true ∧ ∀ w, F w → (execOp a.eval o).run P w = .ok (.value v) w) ∨
  (Region.wanted o (yielded ops a.tmps) = false ∧ v = undef)
theorem YieldsF.wpOp {i : Nat} {o : Oper} {v : Value} {a : Act} {Q : Exit → Act → World → Prop} (hi : ops[i]? = some o) (hy : YieldsF P ops F o v a)
    {K : Act → World → Prop} {w : World} (hF : F w) (h : K (a.put o.dst v) w) : wpOp P ops Q i K a w := by
  unfold Go.wpOp
  simp only [hi]
  rcases hy with ⟨hw, hv⟩ | ⟨hw, rfl⟩
  · simp only [hw, if_true, Oper.wp, hv w hF, Oper.upon]; exact .inl h
  · simp only [hw, Bool.false_eq_true, if_false]; exact h
theorem YieldsF.of_same {o : Oper} {v : Value} {a a' : Act} (hy : YieldsF P ops F o v a) (he : execOp a'.eval o = execOp a.eval o)
    (hw : Region.wanted o (yielded ops a'.tmps) = Region.wanted o (yielded ops a.tmps)) : YieldsF P ops F o v a' := by
  unfold YieldsF at *
  rw [he, hw]
  exact hy
theorem wpOp_putF {Q : Act → World → Prop} {j : Nat} {oi oj : Oper} {v : Value} (hj : ops[j]? = some oj) (hap : oi.apart ops oj = true)
    (hsi : ∀ cs b, oi.op ≠ .select cs b) (hsj : ∀ cs b, oj.op ≠ .select cs b) {K : Act → World → Prop} {a : Act} {w : World}
    (hy : YieldsF P ops F oi v a) (h : wpOp P ops (onlyN Q) j K (a.put oi.dst v) w) :
    wpOp P ops (onlyN Q) j (fun a' w' => YieldsF P ops F oi v a' ∧ K (a'.put oi.dst v) w') a w := by
  obtain ⟨h1, h2, h3⟩ := Oper.apart_spec hap
  have keep : ∀ (a : Act), YieldsF P ops F oi v a → ∀ u, YieldsF P ops F oi v (a.put oj.dst u) := fun a hy u =>
    hy.of_same (execOp_put oi hsi a oj.dst u h3) (wanted_put oi a oj.dst u h3)
  have keepD : ∀ d, YieldsF P ops F oi v { a with defers := d :: a.defers } := fun d => hy.of_same rfl rfl
  unfold wpOp at *
  simp only [hj] at *
  rw [wanted_put oj a oi.dst v h1] at h
  split
  · rename_i hw
    simp only [hw, if_true] at h
    rcases h with h | ⟨hasks, hlets⟩
    case inr => exact .inr ⟨by unfold Oper.asks at *; rw [execOp_put oj hsj a oi.dst v h1] at hasks; exact hasks, hlets⟩
    refine .inl ?_
    unfold Oper.wp at *
    rw [execOp_put oj hsj a oi.dst v h1] at h
    generalize (execOp a.eval oj).run P w = r at *
    cases r with
    | ok n w' =>
      cases n <;> simp only [Oper.upon] at h ⊢
      case value u => exact ⟨keep a hy u, by rw [← Act.put_comm a v u h2]; exact h⟩
      case skip => exact ⟨keep a hy _, by rw [← Act.put_comm a v undef h2]; exact h⟩
      case defer d =>
        refine ⟨keep _ (keepD d) _, ?_⟩
        rw [← Act.put_comm _ v undef h2, ← Act.put_defers]
        exact h
      case enter f args =>
        refine Calls.mono h fun e w'' he => ?_
        cases e with
        | returned u => exact ⟨keep a hy u, by rw [← Act.put_comm a v u h2]; exact he⟩
        | panicked c => exact he
        | outgrown => exact he
      case row row args => exact Rows.mono h fun u w'' he => ⟨keep a hy u, by rw [← Act.put_comm a v u h2]; exact he⟩
    | halt x w' =>
      cases x <;> simp only [Oper.upon] at h ⊢
      case panic u => exact h
  · rename_i hw
    simp only [hw] at h
    exact ⟨keep a hy _, by rw [← Act.put_comm a v undef h2]; exact h⟩
theorem wpAnyF_first {Q : Act → World → Prop} {i : Nat} {oi : Oper} {v : Value} (hi : ops[i]? = some oi) (hsel : ∀ (j : Nat) (o : Oper) cs b, ops[j]? = some o → o.op ≠ .select cs b) :
    ∀ (fuel : Nat) (listed : Array Bool) (a : Act) (w : World), F w →
      (∀ j oj, ops[j]? = some oj → j ≠ i → listed.getD j true = false → (∀ e ∈ oj.after, Region.binds md e = true → e.on ≠ i) → oi.apart ops oj = true) →
      i ∈ Region.ready md ops listed → YieldsF P ops F oi v a →
      wpAnyF P md ops F Q fuel (listed.setIfInBounds i true) (a.put oi.dst v) w → wpAnyF P md ops F Q (fuel + 1) listed a w := by
  intro fuel
  induction fuel with
  | zero =>
    intro listed a w hF _ hr hy H
    refine ⟨fun h => (by rw [h] at hr; cases hr), fun j hj => ?_⟩
    by_cases hji : j = i
    · subst hji; exact hy.wpOp hi hF ⟨hF, H⟩
    · have := ready_mono hj hji
      rw [H.1] at this
      cases this
  | succ fuel ih =>
    intro listed a w hF hfree hr hy H
    refine ⟨fun h => (by rw [h] at hr; cases hr), fun j hj => ?_⟩
    by_cases hji : j = i
    · subst hji; exact hy.wpOp hi hF ⟨hF, H⟩
    · have h1 := H.2 j (ready_mono hj hji)
      obtain ⟨hjun, oj, hoj, hall⟩ := mem_ready.1 hj
      have hnot : ∀ e ∈ oj.after, Region.binds md e = true → e.on ≠ i := fun e he hb heq => by
        have h1 := hall e he hb
        have h0 := (mem_ready.1 hr).1
        rw [heq] at h1
        rcases Nat.lt_or_ge i listed.size with h' | h'
        · simp [h'] at h0 h1; rw [h0] at h1; cases h1
        · simp [Array.getElem?_eq_none h'] at h1
      have h2 := wpOp_putF hoj (hfree j oj hoj hji hjun hnot) (fun cs b => hsel i oi cs b hi) (fun cs b => hsel j oj cs b hoj) hy h1
      have hfree' : ∀ k ok, ops[k]? = some ok → k ≠ i → (listed.setIfInBounds j true).getD k true = false →
          (∀ e ∈ ok.after, Region.binds md e = true → e.on ≠ i) → oi.apart ops ok = true := fun k ok hk hki hun hno => by
        refine hfree k ok hk hki ?_ hno
        by_cases hjk : j = k
        · subst hjk; exact hjun
        · rw [getD_set_ne true hjk] at hun; exact hun
      refine wpOp_mono (fun a' w' h3 => ⟨h3.2.1, ih (listed.setIfInBounds j true) a' w' h3.2.1 hfree' (ready_mono hr (Ne.symm hji)) h3.1 ?_⟩) h2
      rw [Array.setIfInBounds_comm _ _ hji]
      exact h3.2.2
/-- A plan: the operations' numbers, in an order; the loud ones come up alone, or each of those that come up has its own plan. -/
inductive Plan where
  | nil
  | q (i : Nat) (p : Plan)
  | l (i : Nat) (p : Plan)
  | fork (p q : Plan)
def Plan.heads : Plan → List (Nat × Plan)
  | .l i p => [(i, p)]
  | .fork p p' => p.heads ++ p'.heads
  | _ => []
def planOk (md : Region.Mode) (ops : Array Oper) : Nat → Plan → Array Bool → Bool
  | 0, .nil, listed => (Region.ready md ops listed).isEmpty
  | n + 1, .q i r, listed => (Region.ready md ops listed).contains i && Region.free md ops listed i && planOk md ops n r (listed.setIfInBounds i true)
  | n + 1, .l i r, listed => (Region.ready md ops listed == [i]) && planOk md ops n r (listed.setIfInBounds i true)
  | n + 1, .fork p q, listed => !(Plan.fork p q).heads.isEmpty && (Region.ready md ops listed == (Plan.fork p q).heads.map (·.1)) && (Plan.fork p q).heads.all fun x => planOk md ops n x.2 (listed.setIfInBounds x.1 true)
  | _, _, _ => false
def PW (P : Program) (ops : Array Oper) (F : World → Prop) (Q : Act → World → Prop) : Plan → Act → World → Prop
  | .nil, a, w => Q a w
  | .q i r, a, w => ∃ o v, ops[i]? = some o ∧ YieldsF P ops F o v a ∧ PW P ops F Q r (a.put o.dst v) w
  | .l i r, a, w => ∃ o, ops[i]? = some o ∧ if Region.wanted o (yielded ops a.tmps) then o.wp P a w (fun a' w' => F w' ∧ PW P ops F Q r a' w') (onlyN Q) else PW P ops F Q r (a.put o.dst undef) w
  | .fork p q, a, w => PW P ops F Q p a w ∧ PW P ops F Q q a w
theorem PW.heads {Q : Act → World → Prop} {a : Act} {w : World} : ∀ {p : Plan}, PW P ops F Q p a w → ∀ x ∈ p.heads, PW P ops F Q (.l x.1 x.2) a w
  | .nil, _, x, hx => by simp [Plan.heads] at hx
  | .q i p, _, x, hx => by simp [Plan.heads] at hx
  | .l i p, h, x, hx => by
    simp only [Plan.heads, List.mem_singleton] at hx
    subst hx
    exact h
  | .fork p q, h, x, hx => by
    simp only [Plan.heads, List.mem_append] at hx
    exact hx.elim (PW.heads h.1 x) (PW.heads h.2 x)
theorem wpAnyF_of_plan {Q : Act → World → Prop} (hs : Region.noSelect ops = true) : ∀ (n : Nat) (plan : Plan) (listed : Array Bool) (a : Act) (w : World), planOk md ops n plan listed = true → F w → PW P ops F Q plan a w →
    wpAnyF P md ops F Q n listed a w
  | 0, .nil, listed, a, w, hp, _, h => ⟨by simpa [planOk] using hp, h⟩
  | 0, .q i r, listed, a, w, hp, _, h => by simp [planOk] at hp
  | 0, .l i r, listed, a, w, hp, _, h => by simp [planOk] at hp
  | 0, .fork p q, listed, a, w, hp, _, h => by simp [planOk] at hp
  | n + 1, .nil, listed, a, w, hp, _, h => by simp [planOk] at hp
  | n + 1, .q i r, listed, a, w, hp, hF, h => by
    simp only [planOk, Bool.and_eq_true] at hp
    obtain ⟨⟨hr, hf⟩, hp'⟩ := hp
    obtain ⟨o, v, ho, hy, hK⟩ := h
    exact wpAnyF_first ho (Region.noSelect_spec hs) n listed a w hF (Region.free_spec ho hf) (by simpa using hr) hy (wpAnyF_of_plan hs n r _ _ w hp' hF hK)
  | n + 1, .l i r, listed, a, w, hp, hF, h => by
    simp only [planOk, Bool.and_eq_true, beq_iff_eq] at hp
    obtain ⟨hr, hp'⟩ := hp
    obtain ⟨o, ho, hK⟩ := h
    show _ ∧ _
    rw [hr]
    refine ⟨fun h => absurd h (by simp), fun j hj => ?_⟩
    obtain rfl : j = i := by simpa using hj
    unfold wpOp
    simp only [ho]
    split
    · rename_i hw
      rw [if_pos hw] at hK
      exact .inl (Oper.wp_mono (fun a' w' h' => ⟨h'.1, wpAnyF_of_plan hs n r _ a' w' hp' h'.1 h'.2⟩) hK)
    · rename_i hw
      rw [if_neg hw] at hK
      exact ⟨hF, wpAnyF_of_plan hs n r _ _ w hp' hF hK⟩
  | n + 1, .fork p q, listed, a, w, hp, hF, h => by
    simp only [planOk, Bool.and_eq_true, beq_iff_eq, List.all_eq_true, Bool.not_eq_true', List.isEmpty_eq_false_iff] at hp
    obtain ⟨⟨hne, hr⟩, hp'⟩ := hp
    have hh := PW.heads h
    generalize (Plan.fork p q).heads = hd at hr hp' hh hne
    refine ⟨fun hm => ?_, fun j hj => ?_⟩
    · rw [hr] at hm
      exact absurd (by simpa using hm) hne
    · rw [hr] at hj
      obtain ⟨x, hx, rfl⟩ := List.mem_map.1 hj
      obtain ⟨o, ho, hK⟩ := hh x hx
      have hpx := hp' x hx
      unfold wpOp
      simp only [ho]
      split
      · rename_i hw
        rw [if_pos hw] at hK
        exact .inl (Oper.wp_mono (fun a' w' h' => ⟨h'.1, wpAnyF_of_plan hs n x.2 _ a' w' hpx h'.1 h'.2⟩) hK)
      · rename_i hw
        rw [if_neg hw] at hK
        exact ⟨hF, wpAnyF_of_plan hs n x.2 _ _ w hpx hF hK⟩
end
/-- The walk by a plan, over an environment. -/
def DRW (P : Program) (N : Nat) (ops : Array Oper) (F : World → Prop) (Q : Act → World → Prop) (plan : Plan) (l : Env) (w : World) : Prop := ∀ a, l.on N a → PW P ops F Q plan a w
section
variable {P : Program} {N : Nat} {ops : Array Oper} {F : World → Prop} {Q : Exit → Act → World → Prop} {Qn : Act → World → Prop} {plan : Plan} {l : Env} {w : World}
theorem CW.draw {id : Nat} {os : List Oper} (F : World → Prop) (plan : Plan) (hm : P.follows .mixedOrders = true) (hp : (Region.noSelect os.toArray && planOk .any os.toArray os.length plan (Array.replicate os.length false)) = true)
    (hF : F { w with drawn := w.drawn + 1 }) (h : DRW P N os.toArray F (fun a w => Q .normal a w) plan l { w with drawn := w.drawn + 1 }) : CW P N Q (.region id os.toArray true) l w := fun a ha => by
  simp only [Bool.and_eq_true, beq_iff_eq] at hp
  refine wp_region_any hm (wpAny_of_F (F := F) (Q := fun a w => Q .normal a w) (fun _ _ h => h) _ _ _ _ ?_)
  have := wpAnyF_of_plan (P := P) (F := F) (md := .any) hp.1 os.length plan (Array.replicate os.length false) a _ hp.2 hF (h a ha)
  simpa using this
theorem DRW.done (h : AQ N Q .normal l w) : DRW P N ops F (fun a w => Q .normal a w) .nil l w := fun a ha => h a ha
theorem DRW.fork {p q : Plan} (h1 : DRW P N ops F Qn p l w) (h2 : DRW P N ops F Qn q l w) : DRW P N ops F Qn (.fork p q) l w := fun a ha => ⟨h1 a ha, h2 a ha⟩
theorem DRW.weak {l' : Env} (hs : Env.sub l' l) (h : DRW P N ops F Qn plan l' w) : DRW P N ops F Qn plan l w := fun a ha => h a (Env.on_sub hs ha)
/-- One that only reads. -/
theorem DRW.q {i d : Nat} {o : Op} {ty : TypeId} {pos : String} {after : Array Edge} {v : Value} (ho : ops[i]? = some ⟨some d, o, ty, pos, after, none⟩) (hd : Nat.blt d N = true)
    (hr : ∀ w', F w' → Runs P o ty l w' (.value v) w') (h : DRW P N ops F Qn plan ((d, v) :: l) w) : DRW P N ops F Qn (.q i plan) l w := fun a ha =>
  ⟨_, v, ho, .inl ⟨rfl, fun w' hw' => hr w' hw' a.eval (fun x v => ev_on ha) (some d) pos after none⟩, h _ (Env.on_put hd ha)⟩
theorem DRW.q_on {i d g t : Nat} {o : Op} {ty : TypeId} {pos : String} {after : Array Edge} {v : Value} {want b : Bool} (ho : ops[i]? = some ⟨some d, o, ty, pos, after, some (g, want)⟩) (ht : (ops[g]?).bind (·.dst) = some t) (hv : l.get t = some (.bool b)) (htN : Nat.blt t N = true) (hb : b = want) (hd : Nat.blt d N = true)
    (hr : ∀ w', F w' → Runs P o ty l w' (.value v) w') (h : DRW P N ops F Qn plan ((d, v) :: l) w) : DRW P N ops F Qn (.q i plan) l w := fun a ha =>
  ⟨_, v, ho, .inl ⟨by rw [wanted_of ha rfl ht hv htN, hb]; exact beq_self_eq_true _, fun w' hw' => hr w' hw' a.eval (fun x v => ev_on ha) (some d) pos after _⟩, h _ (Env.on_put hd ha)⟩
theorem DRW.q_off {i d g t : Nat} {o : Op} {ty : TypeId} {pos : String} {after : Array Edge} {want b : Bool} (ho : ops[i]? = some ⟨some d, o, ty, pos, after, some (g, want)⟩) (ht : (ops[g]?).bind (·.dst) = some t) (hv : l.get t = some (.bool b)) (htN : Nat.blt t N = true) (hb : b = !want) (hd : Nat.blt d N = true)
    (h : DRW P N ops F Qn plan ((d, undef) :: l) w) : DRW P N ops F Qn (.q i plan) l w := fun a ha =>
  ⟨_, undef, ho, .inr ⟨by rw [wanted_of ha rfl ht hv htN, hb]; cases want <;> rfl, rfl⟩, h _ (Env.on_put hd ha)⟩
/-- Loud ones. -/
theorem DRW.opE {i d : Nat} {o : Op} {ty : TypeId} {pos : String} {after : Array Edge} {Φ : Value → World → Prop} (ho : ops[i]? = some ⟨some d, o, ty, pos, after, none⟩) (hd : Nat.blt d N = true)
    (hr : ∃ v w', Runs P o ty l w (.value v) w' ∧ Φ v w') (h : ∀ v w', Φ v w' → F w' ∧ DRW P N ops F Qn plan ((d, v) :: l) w') : DRW P N ops F Qn (.l i plan) l w := fun a ha => by
  obtain ⟨v, w', h1, h2⟩ := hr
  obtain ⟨h3, h4⟩ := h v w' h2
  refine ⟨_, ho, ?_⟩
  rw [if_pos (by rfl)]
  unfold Oper.wp
  rw [h1 a.eval (fun x v => ev_on ha) (some d) pos after none]
  exact ⟨h3, h4 _ (Env.on_put hd ha)⟩
theorem DRW.op1 {i d : Nat} {o : Op} {ty : TypeId} {pos : String} {after : Array Edge} {v : Value} {w' : World} (ho : ops[i]? = some ⟨some d, o, ty, pos, after, none⟩) (hd : Nat.blt d N = true)
    (hr : Runs P o ty l w (.value v) w') (hF : F w') (h : DRW P N ops F Qn plan ((d, v) :: l) w') : DRW P N ops F Qn (.l i plan) l w :=
  DRW.opE (Φ := fun u w'' => u = v ∧ w'' = w') ho hd ⟨v, w', hr, rfl, rfl⟩ fun _ _ ⟨e1, e2⟩ => by subst e1; subst e2; exact ⟨hF, h⟩
theorem DRW.opE0 {i : Nat} {o : Op} {ty : TypeId} {pos : String} {after : Array Edge} {Φ : World → Prop} (ho : ops[i]? = some ⟨none, o, ty, pos, after, none⟩)
    (hr : ∃ w', Runs P o ty l w .skip w' ∧ Φ w') (h : ∀ w', Φ w' → F w' ∧ DRW P N ops F Qn plan l w') : DRW P N ops F Qn (.l i plan) l w := fun a ha => by
  obtain ⟨w', h1, h2⟩ := hr
  obtain ⟨h3, h4⟩ := h w' h2
  refine ⟨_, ho, ?_⟩
  rw [if_pos (by rfl)]
  unfold Oper.wp
  rw [h1 a.eval (fun x v => ev_on ha) none pos after none]
  exact ⟨h3, h4 _ ha⟩
theorem DRW.opE0v {i : Nat} {o : Op} {ty : TypeId} {pos : String} {after : Array Edge} {Φ : Value → World → Prop} (ho : ops[i]? = some ⟨none, o, ty, pos, after, none⟩)
    (hr : ∃ v w', Runs P o ty l w (.value v) w' ∧ Φ v w') (h : ∀ v w', Φ v w' → F w' ∧ DRW P N ops F Qn plan l w') : DRW P N ops F Qn (.l i plan) l w := fun a ha => by
  obtain ⟨v, w', h1, h2⟩ := hr
  obtain ⟨h3, h4⟩ := h v w' h2
  refine ⟨_, ho, ?_⟩
  rw [if_pos (by rfl)]
  unfold Oper.wp
  rw [h1 a.eval (fun x v => ev_on ha) none pos after none]
  exact ⟨h3, h4 _ ha⟩
theorem DRW.call {i d : Nat} {f : FuncId} {fo : Operand} {args : List Operand} {ats : Array TypeId} {ty : TypeId} {pos : String} {after : Array Edge} {vs : List Value} {R : Ending → World → Prop}
    (ho : ops[i]? = some ⟨some d, .call ⟨.value fo, args.toArray, ats⟩, ty, pos, after, none⟩) (hd : Nat.blt d N = true) (hf : Callable P f) (hfo : ev l fo = some (.func (.func f) #[] #[])) (ha : evs l args = some vs) (hc : Calls P f vs.toArray w R)
    (h : ∀ e w', R e w' → ∃ v, e = .returned v ∧ F w' ∧ DRW P N ops F Qn plan ((d, v) :: l) w') : DRW P N ops F Qn (.l i plan) l w := fun a hon => by
  refine ⟨_, ho, ?_⟩
  rw [if_pos (by rfl)]
  unfold Oper.wp
  rw [runs_call hf hfo ha a.eval (fun x v => ev_on hon) (some d) pos after none]
  refine hc.mono fun e w' he => ?_
  obtain ⟨v, rfl, h1, h2⟩ := h e w' he
  exact ⟨h1, h2 _ (Env.on_put hd hon)⟩
end
end Go.Proofs.YtlmmpcdjkpibcaaX
