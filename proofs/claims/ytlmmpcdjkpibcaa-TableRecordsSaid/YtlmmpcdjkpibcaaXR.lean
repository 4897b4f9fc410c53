/- Ranges over functions: the loop, its rounds, what stands behind it. Own lemmas, no program in sight. -/
import Derived.Test.YtlmmpcdjkpibcaaXH
import Derived.RangeFuncLeaves
import Derived.RangeFuncSeq
import Derived.TacticsIn
namespace Go.Proofs.YtlmmpcdjkpibcaaX
set_option linter.unusedVariables false
set_option linter.unusedSimpArgs false
open Go Go.RowKit
variable {w0 w : World} {I : Imm} {L : Own} {P : Program} {l : Env} {ty : TypeId} {N n : Nat} {ops : Array Oper} {Q : Exit → Act → World → Prop} {rest : List Oper} {ro : Option Nat}
abbrev FW (ro : Option Nat) : Fence := { fn := fun _ => True, depth := none, alive := false, round := ro }
theorem fw_depth {ro : Option Nat} {m : Prop} : (FW ro).depth.isSome = true → m := fun h => by simp [FW] at h
def RWI (ro : Option Nat) (n : Nat) (P : Program) (N : Nat) (ops : Array Oper) (Q : Exit → Act → World → Prop) (rest : List Oper) (l : Env) (w : World) : Prop := ∀ a, l.on N a → wpListIn (FW ro) n P ops Q rest a w
def CWI (ro : Option Nat) (n : Nat) (P : Program) (N : Nat) (Q : Exit → Act → World → Prop) (c : Code) (l : Env) (w : World) : Prop := ∀ a, l.on N a → c.wpIn (FW ro) n P Q a w
theorem CW.ofI {c : Code} (n : Nat) (h : CWI none n P N Q c l w) : CW P N Q c l w := fun a ha => wpIn_wide.1 (h a ha)
theorem CWI.region {id : Nat} {os : List Oper} (h : RWI ro n P N os.toArray Q os l w) : CWI ro n P N Q (.region id os.toArray false) l w := fun a ha => wpIn_region_lit (h a ha)
theorem CWI.block {id : Nat} {c : Code} (h : CWI ro n P N (Exit.inBlock id Q) c l w) : CWI ro n P N Q (.block id c) l w := fun a ha => wpIn_block (h a ha)
theorem RWI.done (h : AQ N Q .normal l w) : RWI ro n P N ops Q [] l w := fun a ha => wpListIn_nil (h a ha)
theorem RWI.op1 {d : Tmp} {o : Op} {pos : String} {after : Array Edge} {v : Value} {w' : World} (hd : Nat.blt d N = true) (hnd : ∀ c, o ≠ .defer c)
    (hr : Runs P o ty l w (.value v) w') (h : RWI ro n P N ops Q rest ((d, v) :: l) w') : RWI ro n P N ops Q (⟨some d, o, ty, pos, after, none⟩ :: rest) l w := fun a ha => by
  unfold wpListIn
  simp only [Region.wanted, if_true]
  refine ⟨fun _ _ => trivial, ?_⟩
  rw [Oper.semAt_eq _ _ _ hnd, hr a.eval (fun x v => ev_on ha) (some d) pos after none]
  exact h _ (Env.on_put hd ha)
theorem RWI.op0 {o : Op} {pos : String} {after : Array Edge} {w' : World} (hnd : ∀ c, o ≠ .defer c)
    (hr : Runs P o ty l w .skip w') (h : RWI ro n P N ops Q rest l w') : RWI ro n P N ops Q (⟨none, o, ty, pos, after, none⟩ :: rest) l w := fun a ha => by
  unfold wpListIn
  simp only [Region.wanted, if_true]
  refine ⟨fun _ _ => trivial, ?_⟩
  rw [Oper.semAt_eq _ _ _ hnd, hr a.eval (fun x v => ev_on ha) none pos after none]
  exact h _ ha
theorem RWI.opE {d : Tmp} {o : Op} {pos : String} {after : Array Edge} {Φ : Value → World → Prop} (hd : Nat.blt d N = true) (hnd : ∀ c, o ≠ .defer c)
    (hr : ∃ v w', Runs P o ty l w (.value v) w' ∧ Φ v w') (h : ∀ v w', Φ v w' → RWI ro n P N ops Q rest ((d, v) :: l) w') : RWI ro n P N ops Q (⟨some d, o, ty, pos, after, none⟩ :: rest) l w :=
  let ⟨_, _, h1, h2⟩ := hr; RWI.op1 hd hnd h1 (h _ _ h2)
theorem RWI.opE0 {o : Op} {pos : String} {after : Array Edge} {Φ : World → Prop} (hnd : ∀ c, o ≠ .defer c)
    (hr : ∃ w', Runs P o ty l w .skip w' ∧ Φ w') (h : ∀ w', Φ w' → RWI ro n P N ops Q rest l w') : RWI ro n P N ops Q (⟨none, o, ty, pos, after, none⟩ :: rest) l w :=
  let ⟨_, h1, h2⟩ := hr; RWI.op0 hnd h1 (h _ h2)
/-- A call of yield. -/
theorem RWI.yield {d : Tmp} {fo : Operand} {args : List Operand} {ats : Array TypeId} {pos : String} {after : Array Edge} {r : Nat} {vs : List Value} {R : Ending → World → Prop} (hd : Nat.blt d N = true)
    (hfo : ev l fo = some (.func (.yield r) #[] #[])) (ha : evs l args = some vs) (hy : YieldAt (FW ro) (n - 1) P r vs.toArray w R)
    (h : ∀ e w', R e w' → ∃ v, e = .returned v ∧ RWI ro n P N ops Q rest ((d, v) :: l) w') : RWI ro n P N ops Q (⟨some d, .call ⟨.value fo, args.toArray, ats⟩, ty, pos, after, none⟩ :: rest) l w := fun a hon => by
  obtain ⟨fn, tmps, assign, body, hy, hR⟩ := hy
  unfold wpListIn
  simp only [Region.wanted, if_true]
  refine ⟨fun _ _ => trivial, ?_⟩
  rw [Oper.semAt_eq _ _ _ (by intro c h; cases h)]
  have e : (execOp a.eval ⟨some d, .call ⟨.value fo, args.toArray, ats⟩, ty, pos, after, none⟩).run P w = .ok (.round r fn tmps assign body) w := by
    have e1 := ev_on hon hfo
    have e2 : (args.toArray.map a.eval) = vs.toArray := by rw [List.map_toArray, evs_on (fun x v => ev_on hon) ha]
    simp only [execOp, resolve, e1, e2]
    simpa [Deferred.ofValue, invoke, Sem.run, bind, Sem.bind, pure] using hy
  rw [e]
  refine ⟨fw_depth, hR.mono fun e w' he => ?_⟩
  obtain ⟨v, rfl, h2⟩ := h e w' he
  exact h2 _ (Env.on_put hd hon)
theorem St.putHead {k : Nat} {o o' : Obj} (h : St w0 w I ((k, o) :: L)) : St w0 (w.putObj k o') I ((k, o') :: L) := by
  have hb := h.own (k, o) (List.mem_cons_self ..)
  exact h.put (k := 0) (b := k) (o := o) (o' := o') rfl rfl rfl rfl (World.putObj_heap_same (Array.getElem?_eq_some_iff.1 hb).1) (fun j hj _ => World.putObj_heap_other hj)
/-- A function's begin, where its body holds a range over a function. -/
theorem enterM {f : FuncId} {fn : Func} {c : Code} {args : List Value} {R : Ending → World → Prop} (hf : P.funcs[f]? = some fn) (hb : fn.body = some c) (hN : fn.ntmps = N) (hle : Nat.ble args.length N = true)
    (h : CW P N (bodyPostM (FW none) 5 P fn R) c (args.zipIdx.map fun p => (p.2, p.1)) w) : Calls P f args.toArray w R :=
  callsIn_wide.1 (callsIn_of_wp_marks (n := 5) (F := FW none) hf hb trivial (wpIn_wide.2 (h _ (enter_on hN hle))) rfl)
theorem AQ.ret2M {fn : Func} {R : Ending → World → Prop} {t u : Tmp} {v v' : Value} (hr : fn.results = #[.tmp t, .tmp u]) (hv : l.get t = some v) (hv' : l.get u = some v') (h : R (.returned (.tuple #[v, v'])) w) :
    AQ N (bodyPostM (FW none) n P fn R) .ret l w := fun a ha => by
  show LeavesInM (FW none) n P fn a.tmps R a.defers .returning w
  rw [ha.2.1]
  exact ⟨_, by rw [results_tmp2 hr, ha.2.2 t v hv, ha.2.2 u v' hv'], h⟩
def markOf (D : Nat) : List Deferred := [{ target := .collected D, args := #[] }]
theorem AQD.ret2M {fn : Func} {R : Ending → World → Prop} {t u : Tmp} {v v' : Value} {D : Nat} (hst : St w0 w I ((D, .deferred (some [])) :: L)) (hr : fn.results = #[.tmp t, .tmp u]) (hv : l.get t = some v) (hv' : l.get u = some v')
    (h : ∀ w', St w0 w' I L → R (.returned (.tuple #[v, v'])) w') : AQD N (markOf D) (bodyPostM (FW none) n P fn R) .ret l w := fun a ha => by
  show LeavesInM (FW none) n P fn a.tmps R a.defers .returning w
  rw [ha.2.1]
  refine ⟨(fun h => by cases h), .inl ⟨D, _, rfl, run_takeDeferred (hst.own (D, _) (List.mem_cons_self ..)), ?_⟩⟩
  exact ⟨_, by rw [results_tmp2 hr, ha.2.2 t v hv, ha.2.2 u v' hv'], h _ hst.putHead.drop1⟩
theorem AQD.block_normal {D : List Deferred} {id : Nat} (h : AQD N D Q .normal l w) : AQD N D (Exit.inBlock id Q) .normal l w := h
theorem RWD.callR {D : List Deferred} {d : Tmp} {f : FuncId} {fo : Operand} {args : List Operand} {ats : Array TypeId} {pos : String} {after : Array Edge} {vs : List Value} {R : Ending → World → Prop} (hd : Nat.blt d N = true) (hf : Callable P f)
    (hfo : ev l fo = some (.func (.func f) #[] #[])) (ha : evs l args = some vs) (hc : Calls P f vs.toArray w R) (h : ∀ e w', R e w' → ∃ v, e = .returned v ∧ RWD P N D ops Q rest ((d, v) :: l) w') :
    RWD P N D ops Q (⟨some d, .call ⟨.value fo, args.toArray, ats⟩, ty, pos, after, none⟩ :: rest) l w := RWD.call hd hf hfo ha hc fun e w' he => .inl (h e w' he)
theorem St.two {A B : Nat} {a b : Obj} (ha : w.heap[A]? = some a) (hb : w.heap[B]? = some b) (hab : A ≠ B) : St w w (fun _ => none) [(A, a), (B, b)] := by
  refine ⟨rfl, rfl, rfl, (fun b o h => by cases h), (fun p hp => ?_), (fun p hp => rfl), by simp [hab]⟩
  simp only [List.mem_cons, List.not_mem_nil, or_false] at hp
  rcases hp with rfl | rfl
  · exact ha
  · exact hb
theorem runs_slice_lhm {t e : TypeId} {x y y' y'' : Operand} {A : Option Addr} {n c : Nat} {k k' k'' : IntKind} {lo hi mx : Int} {z : Value} {size bytes : Nat} (ht : P.underlying t = some (.slice e)) (he : TI P e z size bytes) (hx : ev l x = some (.slice A n c))
    (hy : ev l y = some (.int k lo)) (hy' : ev l y' = some (.int k' hi)) (hy'' : ev l y'' = some (.int k'' mx)) (h : 0 ≤ lo ∧ lo ≤ hi ∧ hi ≤ mx ∧ mx ≤ c) : Runs P (.slice t x (some y) (some y') (some y'')) ty l w (.value (sliced A lo.toNat hi.toNat mx.toNat size)) w :=
  runs_slice ht he hx fun ρ hρ => by
    have b1 := sb_ok (P := P) w (k := k'') (i := mx) (y := c) (by omega) (by omega)
    have b2 := sb_ok (P := P) w (k := k') (i := hi) (y := mx.toNat) (by omega) (by omega)
    have b3 := sb_ok (P := P) w (k := k) (i := lo) (y := hi.toNat) (by omega) (by omega)
    simp only [hρ y _ hy, hρ y' _ hy', hρ y'' _ hy'', b1, b2, b3, Instr.sliceBounds, Sem.run_bind, pure, Sem.run, if_true, if_false, Option.isSome_none, Option.isSome_some, Bool.false_eq_true, Result.andThen, Option.map_some, Option.map_none]
/-- A part of a frozen slice, with no room behind it. -/
theorem RdL.cut {size n c : Nat} {A : Option Addr} {xs : List Value} (h : RdL I size (.slice A n c) n xs) {lo hi : Nat} (h1 : lo ≤ hi) (h2 : hi ≤ n) : RdL I size (sliced A lo hi hi size) (hi - lo) ((xs.drop (lo * size)).take ((hi - lo) * size)) := by
  obtain ⟨h3, h0, A', cap', h4, h5, h6⟩ := h
  cases h4
  refine ⟨?_, fun u hu => h0 u (List.mem_of_mem_drop (List.mem_of_mem_take hu)), _, _, rfl, Nat.le_refl _, fun j u hj => ?_⟩
  · rw [List.length_take, List.length_drop, h3, ← Nat.sub_mul]
    exact Nat.min_eq_left (Nat.mul_le_mul_right _ (by omega))
  · rw [List.getElem?_take] at hj
    split at hj
    · rename_i hlt
      rw [List.getElem?_drop] at hj
      obtain ⟨a, rfl, h7⟩ := h6 _ _ hj
      by_cases hc : hi = lo
      · exfalso
        rw [hc, Nat.sub_self, Nat.zero_mul] at hlt
        omega
      · refine ⟨_, by simp only [if_neg hc]; rfl, ?_⟩
        rw [Addr.add_add]; exact h7
    · cases hj
/-- What an iterator promises whose rounds all go on: Cap is what it reads of the world; xs: what it hands out. -/
def Gives {α : Type} (P : Program) (gf : FuncId) (lb : Array Value) (enc : α → Value) (Cap : World → Prop) (xs : List α) : Prop :=
  ∀ (r : Nat) (J : List α → World → Prop) (W : World), (∀ s W k, J s W → J s { W with drawn := W.drawn + k }) → (∀ s W, J s W → Cap W) →
    (∀ pre x W1, J pre W1 → (∃ t, xs = pre ++ x :: t) → YieldAt (FW none) 3 P r #[enc x] W1 fun e W' => e = .returned (.bool true) ∧ J (pre ++ [x]) W') → J [] W →
    Calls P gf (#[.func (.yield r) #[] #[]] ++ lb) W fun e W' => (∃ v, e = .returned v) ∧ J xs W'
theorem CW.rangeF {α : Type} {g : Operand} {p d : Tmp} {id : Nat} {pos : String} {after : Array Edge} {body : Code} {gf : FuncId} {lb : Array Value} {enc : α → Value} {Cap : World → Prop} {xs : List α}
    (hg : ev l g = some (.func (.func gf) #[] lb)) (hcal : Callable P gf) (hp : Nat.blt p N = true) (hd : Nat.blt d N = true) (hgive : Gives P gf lb enc Cap xs)
    (Inv : List α → Own → Prop) {Lc : Own} (h0 : Inv [] Lc) (hst : St w0 w I (Lc ++ L)) (hcap : ∀ W A, St w0 W I (A ++ L) → Cap W)
    (hbody : ∀ r pre x Lx W (A : Own), Inv pre Lx → (∃ t, xs = pre ++ x :: t) → St w0 W I (A ++ (Lx ++ L)) → CWI (some r) 3 P N (fun e _ W' => e = .normal ∧ ∃ Lx', Inv (pre ++ [x]) Lx' ∧ St w0 W' I (A ++ (Lx' ++ L))) body ((d, enc x) :: (p, enc x) :: l) W)
    (hdone : ∀ D Lx W, Inv xs Lx → St w0 W I ((D, .deferred (some [])) :: (Lx ++ L)) → AQD N (markOf D) Q .normal l W) :
    CW P N Q (.rangeFunc g #[p] (.region id #[⟨some d, .assign (.tmp p), ty, pos, after, none⟩] false) body) l w := by
  refine CW.ofI 5 fun a ha => wpIn_rangeFunc fun fn hfn => ?_
  obtain ⟨rec, hrec⟩ : ∃ rec : LoopState → Option Code → Loop, rec = fun st pe => { state := st, pending := pe, fn, tmps := a.tmps, params := #[p], assign := .region id #[⟨some d, .assign (.tmp p), ty, pos, after, none⟩] false, body, defers := w.heap.size } := ⟨_, rfl⟩
  obtain ⟨fn2, hc1, hc2, hc3⟩ := hcal
  have hst1 : St w0 ((w.alloc (.deferred (some []))).alloc (.loop (rec .ready none))) I ((w.heap.size + 1, .loop (rec .ready none)) :: (w.heap.size, .deferred (some [])) :: (Lc ++ L)) := by
    have h1 : St w0 (w.alloc (.deferred (some []))) I ((w.heap.size, .deferred (some [])) :: (Lc ++ L)) := hst.heap_new _
    have h2 := h1.heap_new (.loop (rec .ready none))
    rw [show (w.alloc (.deferred (some []))).heap.size = w.heap.size + 1 by simp] at h2
    exact h2
  refine ⟨w.heap.size + 1, markOf w.heap.size, (w.alloc (.deferred (some []))).alloc (.loop (rec .ready none)), { target := .fn (.func gf) lb, args := #[.func (.yield (w.heap.size + 1)) #[] #[]] }, (w.alloc (.deferred (some []))).alloc (.loop (rec .ready none)), gf, #[.func (.yield (w.heap.size + 1)) #[] #[]] ++ lb, (w.alloc (.deferred (some []))).alloc (.loop (rec .ready none)), by rw [hrec]; exact run_enterLoop_outer _ _ _ _ _, ?_, fun _ _ => trivial, ?_, fw_depth, ?_⟩
  · have e1 := ev_on ha hg
    simp only [resolve, rangeCall, e1]
    simp [go_sem]
  · have h2' : ¬ fn2.name = "runtime.NumGoroutine" := by simpa using hc2
    have h3' : ¬ fn2.body = none := by intro e; simp [e] at hc3
    simp [invoke, callFunc, program, hc1, h2', h3', Sem.run, bind, Sem.bind, pure]
  · refine callsIn_wide.2 ((hgive (w.heap.size + 1) (fun pre W => ∃ Lx, Inv pre Lx ∧ St w0 W I ((w.heap.size + 1, .loop (rec .ready none)) :: (w.heap.size, .deferred (some [])) :: (Lx ++ L))) _ ?_ ?_ ?_ ⟨Lc, h0, hst1⟩).mono ?_)
    · rintro s W k ⟨Lx, h1, h2⟩
      exact ⟨Lx, h1, ⟨h2.os, h2.tape, h2.out, h2.imm, h2.own, h2.sep, h2.nd⟩⟩
    · rintro s W ⟨Lx, _, h2⟩
      exact hcap W ((w.heap.size + 1, .loop (rec .ready none)) :: (w.heap.size, .deferred (some [])) :: Lx) h2
    · rintro pre x W1 ⟨Lx, h1, h2⟩ hx
      have hl := h2.own (w.heap.size + 1, .loop (rec .ready none)) (List.mem_cons_self ..)
      have hy : (Instr.yield (w.heap.size + 1) #[enc x]).run P W1 = .ok (.round (w.heap.size + 1) fn (a.tmps.setIfInBounds p (enc x)) (.region id #[⟨some d, .assign (.tmp p), ty, pos, after, none⟩] false) body) W1 := by
        rw [run_yield (P := P) (args := #[enc x]) hl (by rw [hrec]; rfl), hrec]
        simp
      refine ⟨_, _, _, _, hy, roundIn_of_wpIn trivial ?_⟩
      have hon : Env.on N ((p, enc x) :: l) { tmps := a.tmps.setIfInBounds p (enc x), defers := [] } := by
        have := Env.on_put (v := enc x) hp ha
        exact ⟨this.1, rfl, this.2.2⟩
      refine (CWI.region (ro := some (w.heap.size + 1)) (n := 3) (os := [⟨some d, .assign (.tmp p), ty, pos, after, none⟩]) (RWI.op1 hd (by intro c h; cases h) (runs_assign (v := enc x) (by simp [ev, Env.get])) (RWI.done ?_))) _ hon
      intro a1 ha1
      refine ⟨_, run_beginRound hl (by rw [hrec]), ?_⟩
      have h3 := h2.putHead (o' := .loop { rec .ready none with state := .busy })
      refine wpIn_mono (hbody (w.heap.size + 1) pre x Lx _ [(w.heap.size + 1, .loop { rec .ready none with state := .busy }), (w.heap.size, .deferred (some []))] h1 hx h3 a1 ha1) ?_
      rintro e a3 W3 ⟨rfl, Lx', h4, h5⟩
      have hl3 := h5.own (w.heap.size + 1, .loop { rec .ready none with state := .busy }) (by simp)
      have hend := run_endRound (P := P) none hl3
      refine ⟨_, _, hend, rfl, Lx', h4, ?_⟩
      have h6 := St.putHead (o' := .loop (rec .ready none)) (L := (w.heap.size, .deferred (some [])) :: (Lx' ++ L)) h5
      rw [hrec] at h6 ⊢
      exact h6
    · rintro e W2 ⟨⟨v, rfl⟩, Lx, h1, h2⟩
      have hl := h2.own (w.heap.size + 1, .loop (rec .ready none)) (List.mem_cons_self ..)
      have hend := run_endLoop (P := P) hl (by rw [hrec]; simp)
      have hpe : (rec .ready none).pending = none := by rw [hrec]
      rw [hpe] at hend
      refine ⟨none, _, hend, ?_⟩
      refine hdone w.heap.size Lx _ h1 h2.putHead.drop1 _ ⟨ha.1, ?_, ha.2.2⟩
      show markOf w.heap.size ++ a.defers = markOf w.heap.size
      rw [ha.2.1, List.append_nil]
end Go.Proofs.YtlmmpcdjkpibcaaX
