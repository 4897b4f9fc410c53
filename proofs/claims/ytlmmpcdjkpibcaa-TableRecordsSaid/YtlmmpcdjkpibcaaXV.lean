/- Regions that draw their order, where what is made in them is read in them: what may come grows narrower. Own lemmas, no program in sight. -/
import Derived.Test.YtlmmpcdjkpibcaaXU
import Derived.Test.YtlmmpcdjkpibcaaX8
namespace Go.Proofs.YtlmmpcdjkpibcaaX
set_option linter.unusedVariables false
open Go Go.RowKit
section
variable {P : Program} {ops : Array Oper} {md : Region.Mode}
def PV (P : Program) (ops : Array Oper) (Q : Act → World → Prop) : Plan → (World → Prop) → Act → World → Prop
  | .nil, _, a, w => Q a w
  | .q i r, F, a, w => ∃ o v, ops[i]? = some o ∧ YieldsF P ops F o v a ∧ PV P ops Q r F (a.put o.dst v) w
  | .l i r, F, a, w => ∃ o, ops[i]? = some o ∧ if Region.wanted o (yielded ops a.tmps) then o.wp P a w (fun a' w' => ∃ F' : World → Prop, (∀ w, F' w → F w) ∧ F' w' ∧ PV P ops Q r F' a' w') (onlyN Q) else PV P ops Q r F (a.put o.dst undef) w
  | .fork p q, F, a, w => PV P ops Q p F a w ∧ PV P ops Q q F a w
theorem PV.heads {F : World → Prop} {Q : Act → World → Prop} {a : Act} {w : World} : ∀ {p : Plan}, PV P ops Q p F a w → ∀ x ∈ p.heads, PV P ops Q (.l x.1 x.2) F a w
  | .nil, _, x, hx => by simp [Plan.heads] at hx
  | .q i p, _, x, hx => by simp [Plan.heads] at hx
  | .l i p, h, x, hx => by
    simp only [Plan.heads, List.mem_singleton] at hx
    subst hx
    exact h
  | .fork p q, h, x, hx => by
    simp only [Plan.heads, List.mem_append] at hx
    exact hx.elim (PV.heads h.1 x) (PV.heads h.2 x)
theorem wpAnyF_monoF {F F' : World → Prop} {Q : Act → World → Prop} (hF : ∀ w, F' w → F w) : ∀ (n : Nat) (listed : Array Bool) (a : Act) (w : World), wpAnyF P md ops F' Q n listed a w → wpAnyF P md ops F Q n listed a w
  | 0, _, _, _, h => h
  | n + 1, _, _, _, h => ⟨h.1, fun i hi => wpOp_mono (fun a' w' h' => ⟨hF _ h'.1, wpAnyF_monoF hF n _ a' w' h'.2⟩) (h.2 i hi)⟩
theorem wpAnyF_of_planV {Q : Act → World → Prop} (hs : Region.noSelect ops = true) : ∀ (n : Nat) (plan : Plan) (F : World → Prop) (listed : Array Bool) (a : Act) (w : World), planOk md ops n plan listed = true → F w → PV P ops Q plan F a w →
    wpAnyF P md ops F Q n listed a w
  | 0, .nil, F, listed, a, w, hp, _, h => ⟨by simpa [planOk] using hp, h⟩
  | 0, .q i r, F, listed, a, w, hp, _, h => by simp [planOk] at hp
  | 0, .l i r, F, listed, a, w, hp, _, h => by simp [planOk] at hp
  | 0, .fork p q, F, listed, a, w, hp, _, h => by simp [planOk] at hp
  | n + 1, .nil, F, listed, a, w, hp, _, h => by simp [planOk] at hp
  | n + 1, .q i r, F, listed, a, w, hp, hF, h => by
    simp only [planOk, Bool.and_eq_true] at hp
    obtain ⟨⟨hr, hf⟩, hp'⟩ := hp
    obtain ⟨o, v, ho, hy, hK⟩ := h
    exact wpAnyF_first ho (Region.noSelect_spec hs) n listed a w hF (Region.free_spec ho hf) (by simpa using hr) hy (wpAnyF_of_planV hs n r F _ _ w hp' hF hK)
  | n + 1, .l i r, F, listed, a, w, hp, hF, h => by
    simp only [planOk, Bool.and_eq_true, beq_iff_eq] at hp
    obtain ⟨hr, hp'⟩ := hp
    obtain ⟨o, ho, hK⟩ := h
    show _ ∧ _
    rw [hr]
    refine ⟨fun h => absurd h (by simp), fun j hj => ?_⟩
    obtain rfl : j = i := by simpa using hj
    unfold wpOp
    simp only [ho]
    split
    · rename_i hw
      rw [if_pos hw] at hK
      exact .inl (Oper.wp_mono (fun a' w' ⟨F', h1, h2, h3⟩ => ⟨h1 _ h2, wpAnyF_monoF h1 n _ a' w' (wpAnyF_of_planV hs n r F' _ a' w' hp' h2 h3)⟩) hK)
    · rename_i hw
      rw [if_neg hw] at hK
      exact ⟨hF, wpAnyF_of_planV hs n r F _ _ w hp' hF hK⟩
  | n + 1, .fork p q, F, listed, a, w, hp, hF, h => by
    simp only [planOk, Bool.and_eq_true, beq_iff_eq, List.all_eq_true, Bool.not_eq_true', List.isEmpty_eq_false_iff] at hp
    obtain ⟨⟨hne, hr⟩, hp'⟩ := hp
    have hh := PV.heads h
    generalize (Plan.fork p q).heads = hd at hr hp' hh hne
    refine ⟨fun hm => ?_, fun j hj => ?_⟩
    · rw [hr] at hm
      exact absurd (by simpa using hm) hne
    · rw [hr] at hj
      obtain ⟨x, hx, rfl⟩ := List.mem_map.1 hj
      obtain ⟨o, ho, hK⟩ := hh x hx
      have hpx := hp' x hx
      unfold wpOp
      simp only [ho]
      split
      · rename_i hw
        rw [if_pos hw] at hK
        exact .inl (Oper.wp_mono (fun a' w' ⟨F', h1, h2, h3⟩ => ⟨h1 _ h2, wpAnyF_monoF h1 n _ a' w' (wpAnyF_of_planV hs n x.2 F' _ a' w' hpx h2 h3)⟩) hK)
      · rename_i hw
        rw [if_neg hw] at hK
        exact ⟨hF, wpAnyF_of_planV hs n x.2 F _ _ w hpx hF hK⟩
end
def DRV (P : Program) (N : Nat) (ops : Array Oper) (F : World → Prop) (Q : Act → World → Prop) (plan : Plan) (l : Env) (w : World) : Prop := ∀ a, l.on N a → PV P ops Q plan F a w
section
variable {P : Program} {N : Nat} {ops : Array Oper} {F : World → Prop} {Q : Exit → Act → World → Prop} {Qn : Act → World → Prop} {plan : Plan} {l : Env} {w : World}
theorem CW.drawF {id : Nat} {os : List Oper} (F : World → Prop) (plan : Plan) (hm : P.follows .mixedOrders = true) (hp : (Region.noSelect os.toArray && planOk .any os.toArray os.length plan (Array.replicate os.length false)) = true)
    (hF : F { w with drawn := w.drawn + 1 }) (h : DRV P N os.toArray F (fun a w => Q .normal a w) plan l { w with drawn := w.drawn + 1 }) : CW P N Q (.region id os.toArray true) l w := fun a ha => by
  simp only [Bool.and_eq_true] at hp
  refine wp_region_any hm (wpAny_of_F (F := F) (Q := fun a w => Q .normal a w) (fun _ _ h => h) _ _ _ _ ?_)
  have := wpAnyF_of_planV (P := P) (md := .any) hp.1 os.length plan F (Array.replicate os.length false) a _ hp.2 hF (h a ha)
  simpa using this
theorem CW.drawV {w0 : World} {I : Imm} {L : Own} {id : Nat} {os : List Oper} (hst : St w0 w I L) (plan : Plan) (hm : P.follows .mixedOrders = true) (hp : (Region.noSelect os.toArray && planOk .any os.toArray os.length plan (Array.replicate os.length false)) = true)
    (h : ∀ w, St w0 w I L → DRV P N os.toArray (FSt w0 I L) (fun a w => Q .normal a w) plan l w) : CW P N Q (.region id os.toArray true) l w :=
  CW.drawF (FSt w0 I L) plan hm hp ⟨I, Imm.le.refl I, hst.draw⟩ (h _ hst.draw)
theorem FSt.lift {w0 : World} {I I' : Imm} {L : Own} (hI : I.le I') : ∀ w, FSt w0 I' L w → FSt w0 I L w := fun w ⟨J, h1, h2⟩ => ⟨J, hI.trans h1, h2⟩
theorem DRV.done (h : AQ N Q .normal l w) : DRV P N ops F (fun a w => Q .normal a w) .nil l w := fun a ha => h a ha
theorem DRV.fork {p q : Plan} (h1 : DRV P N ops F Qn p l w) (h2 : DRV P N ops F Qn q l w) : DRV P N ops F Qn (.fork p q) l w := fun a ha => ⟨h1 a ha, h2 a ha⟩
theorem DRV.q {i d : Nat} {o : Op} {ty : TypeId} {pos : String} {after : Array Edge} {v : Value} (ho : ops[i]? = some ⟨some d, o, ty, pos, after, none⟩) (hd : Nat.blt d N = true)
    (hr : ∀ w', F w' → Runs P o ty l w' (.value v) w') (h : DRV P N ops F Qn plan ((d, v) :: l) w) : DRV P N ops F Qn (.q i plan) l w := fun a ha =>
  ⟨_, v, ho, .inl ⟨rfl, fun w' hw' => hr w' hw' a.eval (fun x v => ev_on ha) (some d) pos after none⟩, h _ (Env.on_put hd ha)⟩
theorem DRV.q_on {i d g t : Nat} {o : Op} {ty : TypeId} {pos : String} {after : Array Edge} {v : Value} {want b : Bool} (ho : ops[i]? = some ⟨some d, o, ty, pos, after, some (g, want)⟩) (ht : (ops[g]?).bind (·.dst) = some t) (hv : l.get t = some (.bool b)) (htN : Nat.blt t N = true) (hb : b = want) (hd : Nat.blt d N = true)
    (hr : ∀ w', F w' → Runs P o ty l w' (.value v) w') (h : DRV P N ops F Qn plan ((d, v) :: l) w) : DRV P N ops F Qn (.q i plan) l w := fun a ha =>
  ⟨_, v, ho, .inl ⟨by rw [wanted_of ha rfl ht hv htN, hb]; exact beq_self_eq_true _, fun w' hw' => hr w' hw' a.eval (fun x v => ev_on ha) (some d) pos after _⟩, h _ (Env.on_put hd ha)⟩
theorem DRV.q_off {i d g t : Nat} {o : Op} {ty : TypeId} {pos : String} {after : Array Edge} {want b : Bool} (ho : ops[i]? = some ⟨some d, o, ty, pos, after, some (g, want)⟩) (ht : (ops[g]?).bind (·.dst) = some t) (hv : l.get t = some (.bool b)) (htN : Nat.blt t N = true) (hb : b = !want) (hd : Nat.blt d N = true)
    (h : DRV P N ops F Qn plan ((d, undef) :: l) w) : DRV P N ops F Qn (.q i plan) l w := fun a ha =>
  ⟨_, undef, ho, .inr ⟨by rw [wanted_of ha rfl ht hv htN, hb]; cases want <;> rfl, rfl⟩, h _ (Env.on_put hd ha)⟩
theorem DRV.q_undef {i d g t : Nat} {o : Op} {ty : TypeId} {pos : String} {after : Array Edge} {want : Bool} (ho : ops[i]? = some ⟨some d, o, ty, pos, after, some (g, want)⟩) (ht : (ops[g]?).bind (·.dst) = some t) (hv : l.get t = some undef) (htN : Nat.blt t N = true) (hd : Nat.blt d N = true)
    (h : DRV P N ops F Qn plan ((d, undef) :: l) w) : DRV P N ops F Qn (.q i plan) l w := fun a ha =>
  ⟨_, undef, ho, .inr ⟨wanted_undef ha rfl ht hv htN, rfl⟩, h _ (Env.on_put hd ha)⟩
theorem DRV.split {t : Nat} {b : Bool} (hv : l.get t = some (.bool b)) (h1 : b = true → DRV P N ops F Qn plan l w) (h2 : b = false → DRV P N ops F Qn plan l w) : DRV P N ops F Qn plan l w := by
  cases b
  · exact h2 rfl
  · exact h1 rfl
theorem DRV.opE {i d : Nat} {o : Op} {ty : TypeId} {pos : String} {after : Array Edge} {Φ : Value → World → Prop} (ho : ops[i]? = some ⟨some d, o, ty, pos, after, none⟩) (hd : Nat.blt d N = true)
    (hr : ∃ v w', Runs P o ty l w (.value v) w' ∧ Φ v w') (h : ∀ v w', Φ v w' → ∃ F' : World → Prop, (∀ w, F' w → F w) ∧ F' w' ∧ DRV P N ops F' Qn plan ((d, v) :: l) w') : DRV P N ops F Qn (.l i plan) l w := fun a ha => by
  obtain ⟨v, w', h1, h2⟩ := hr
  obtain ⟨F', h0, h3, h4⟩ := h v w' h2
  refine ⟨_, ho, ?_⟩
  rw [if_pos (by rfl)]
  unfold Oper.wp
  rw [h1 a.eval (fun x v => ev_on ha) (some d) pos after none]
  exact ⟨F', h0, h3, h4 _ (Env.on_put hd ha)⟩
theorem DRV.op1 {i d : Nat} {o : Op} {ty : TypeId} {pos : String} {after : Array Edge} {v : Value} {w' : World} (ho : ops[i]? = some ⟨some d, o, ty, pos, after, none⟩) (hd : Nat.blt d N = true)
    (hr : Runs P o ty l w (.value v) w') (hF : F w') (h : DRV P N ops F Qn plan ((d, v) :: l) w') : DRV P N ops F Qn (.l i plan) l w :=
  DRV.opE (Φ := fun u w'' => u = v ∧ w'' = w') ho hd ⟨v, w', hr, rfl, rfl⟩ fun _ _ ⟨e1, e2⟩ => by subst e1; subst e2; exact ⟨F, fun _ h => h, hF, h⟩
theorem DRV.opE0 {i : Nat} {o : Op} {ty : TypeId} {pos : String} {after : Array Edge} {Φ : World → Prop} (ho : ops[i]? = some ⟨none, o, ty, pos, after, none⟩)
    (hr : ∃ w', Runs P o ty l w .skip w' ∧ Φ w') (h : ∀ w', Φ w' → ∃ F' : World → Prop, (∀ w, F' w → F w) ∧ F' w' ∧ DRV P N ops F' Qn plan l w') : DRV P N ops F Qn (.l i plan) l w := fun a ha => by
  obtain ⟨w', h1, h2⟩ := hr
  obtain ⟨F', h0, h3, h4⟩ := h w' h2
  refine ⟨_, ho, ?_⟩
  rw [if_pos (by rfl)]
  unfold Oper.wp
  rw [h1 a.eval (fun x v => ev_on ha) none pos after none]
  exact ⟨F', h0, h3, h4 _ ha⟩
theorem DRV.call {i d : Nat} {f : FuncId} {fo : Operand} {args : List Operand} {ats : Array TypeId} {ty : TypeId} {pos : String} {after : Array Edge} {vs : List Value} {R : Ending → World → Prop}
    (ho : ops[i]? = some ⟨some d, .call ⟨.value fo, args.toArray, ats⟩, ty, pos, after, none⟩) (hd : Nat.blt d N = true) (hf : Callable P f) (hfo : ev l fo = some (.func (.func f) #[] #[])) (ha : evs l args = some vs) (hc : Calls P f vs.toArray w R)
    (h : ∀ e w', R e w' → ∃ v, e = .returned v ∧ ∃ F' : World → Prop, (∀ w, F' w → F w) ∧ F' w' ∧ DRV P N ops F' Qn plan ((d, v) :: l) w') : DRV P N ops F Qn (.l i plan) l w := fun a hon => by
  refine ⟨_, ho, ?_⟩
  rw [if_pos (by rfl)]
  unfold Oper.wp
  rw [runs_call hf hfo ha a.eval (fun x v => ev_on hon) (some d) pos after none]
  refine hc.mono fun e w' he => ?_
  obtain ⟨v, rfl, F', h0, h1, h2⟩ := h e w' he
  exact ⟨F', h0, h1, h2 _ (Env.on_put hd hon)⟩
theorem DRV.call_on {i d g t : Nat} {f : FuncId} {fo : Operand} {args : List Operand} {ats : Array TypeId} {ty : TypeId} {pos : String} {after : Array Edge} {vs : List Value} {R : Ending → World → Prop} {want b : Bool}
    (ho : ops[i]? = some ⟨some d, .call ⟨.value fo, args.toArray, ats⟩, ty, pos, after, some (g, want)⟩) (ht : (ops[g]?).bind (·.dst) = some t) (hv : l.get t = some (.bool b)) (htN : Nat.blt t N = true) (hb : b = want) (hd : Nat.blt d N = true) (hf : Callable P f) (hfo : ev l fo = some (.func (.func f) #[] #[])) (ha : evs l args = some vs) (hc : Calls P f vs.toArray w R)
    (h : ∀ e w', R e w' → ∃ v, e = .returned v ∧ ∃ F' : World → Prop, (∀ w, F' w → F w) ∧ F' w' ∧ DRV P N ops F' Qn plan ((d, v) :: l) w') : DRV P N ops F Qn (.l i plan) l w := fun a hon => by
  refine ⟨_, ho, ?_⟩
  rw [if_pos (by rw [wanted_of hon rfl ht hv htN, hb]; exact beq_self_eq_true _)]
  unfold Oper.wp
  rw [runs_call hf hfo ha a.eval (fun x v => ev_on hon) (some d) pos after _]
  refine hc.mono fun e w' he => ?_
  obtain ⟨v, rfl, F', h0, h1, h2⟩ := h e w' he
  exact ⟨F', h0, h1, h2 _ (Env.on_put hd hon)⟩
theorem DRV.opE_on {i d g t : Nat} {o : Op} {ty : TypeId} {pos : String} {after : Array Edge} {Φ : Value → World → Prop} {want b : Bool}
    (ho : ops[i]? = some ⟨some d, o, ty, pos, after, some (g, want)⟩) (ht : (ops[g]?).bind (·.dst) = some t) (hv : l.get t = some (.bool b)) (htN : Nat.blt t N = true) (hb : b = want) (hd : Nat.blt d N = true)
    (hr : ∃ v w', Runs P o ty l w (.value v) w' ∧ Φ v w') (h : ∀ v w', Φ v w' → ∃ F' : World → Prop, (∀ w, F' w → F w) ∧ F' w' ∧ DRV P N ops F' Qn plan ((d, v) :: l) w') : DRV P N ops F Qn (.l i plan) l w := fun a ha => by
  obtain ⟨v, w', h1, h2⟩ := hr
  obtain ⟨F', h0, h3, h4⟩ := h v w' h2
  refine ⟨_, ho, ?_⟩
  rw [if_pos (by rw [wanted_of ha rfl ht hv htN, hb]; exact beq_self_eq_true _)]
  unfold Oper.wp
  rw [h1 a.eval (fun x v => ev_on ha) (some d) pos after _]
  exact ⟨F', h0, h3, h4 _ (Env.on_put hd ha)⟩
theorem DRV.l_off {i d g t : Nat} {o : Op} {ty : TypeId} {pos : String} {after : Array Edge} {want b : Bool} (ho : ops[i]? = some ⟨some d, o, ty, pos, after, some (g, want)⟩) (ht : (ops[g]?).bind (·.dst) = some t) (hv : l.get t = some (.bool b)) (htN : Nat.blt t N = true) (hb : b = !want) (hd : Nat.blt d N = true)
    (h : DRV P N ops F Qn plan ((d, undef) :: l) w) : DRV P N ops F Qn (.l i plan) l w := fun a ha => by
  refine ⟨_, ho, ?_⟩
  rw [if_neg (by rw [wanted_of ha rfl ht hv htN, hb]; cases want <;> decide)]
  exact h _ (Env.on_put hd ha)
end
end Go.Proofs.YtlmmpcdjkpibcaaX
