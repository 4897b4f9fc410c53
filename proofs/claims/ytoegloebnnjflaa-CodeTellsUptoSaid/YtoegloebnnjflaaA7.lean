/- Does the must call panic? Own lemmas. -/
import Derived.Test.YtoegloebnnjflaaA6
import Derived.Test.YtoegloebnnjflaaXH
namespace Go.Proofs.YtoegloebnnjflaaX
set_option linter.unusedVariables false
set_option linter.unusedSimpArgs false
open Go Go.RowKit Go.Proofs
variable {w0 w : World} {I : Imm} {L : Own}

theorem tae : ∃ e, Try.prog.underlying Try.prog.rt.typeAssertionError = some (.pointer e) := by
  have h : (match Try.prog.underlying Try.prog.rt.typeAssertionError with | some (.pointer _) => true | _ => false) = true := by kernel_rfl
  cases hd : Try.prog.underlying Try.prog.rt.typeAssertionError with
  | none => rw [hd] at h; cases h
  | some d => rw [hd] at h; cases d <;> first | exact ⟨_, rfl⟩ | cases h
theorem AV.iface_v {m : Nat} {o : Bool} {a : AV} (h : a.good m o) : isIface a.v = true := AV.isI h
set_option maxRecDepth 100000 in
theorem mustint_bad (hst : St w0 w I L) {v : Value} {av : List AV} {m : Nat} {o : Bool} (hv : RdA I v av) (hgood : ∀ a ∈ av, a.good m o) (k : Int) (h : asB 3 (atA av k).v = false) :
    Calls Try.prog 23 #[v, .int .i64 k] w fun e w' => ∃ T p, e = .panicked [{ v := .iface T p, recovered := false }] ∧ St w0 w' I L := by
  refine enter Try.func23 rfl (N := 9) rfl rfl ?_
  simp only [List.zipIdx_cons, List.zipIdx_nil, List.map_cons, List.map_nil, Nat.zero_add, Nat.reduceAdd]
  refine CW.seq ?_
  refine CW.region ?_
  refine RW.op1 rfl (runs_assign rfl) ?_
  refine RW.done ?_
  refine AQ.next ?_
  refine CW.seq ?_
  refine CW.region ?_
  refine RW.op1 rfl (runs_move rfl) ?_
  refine RW.op1 rfl (runs_move rfl) ?_
  refine RW.call rfl call25 rfl rfl (at_spec hst hv k) ?_
  rintro e w ⟨rfl, hst⟩
  refine ⟨_, rfl, ?_⟩
  obtain ⟨e, hte⟩ := tae
  obtain ⟨p, w', h1, h2⟩ := falls_assert (l := [(7, (atA av k).v), (6, .int .i64 k), (5, v), (4, .int .i64 0), (0, v), (1, .int .i64 k)]) (x := .tmp 7) (t := 20) (ty := 3) con3 hte rfl (AV.isI (atA_good hgood k)) h hst
  refine RW.opP h1 (AQ.past_panic ?_)
  refine AQ.panicked ?_
  exact ⟨_, _, rfl, h2⟩
set_option maxRecDepth 100000 in
theorem musttext_bad (hst : St w0 w I L) {v : Value} {av : List AV} {m : Nat} {o : Bool} (hv : RdA I v av) (hgood : ∀ a ∈ av, a.good m o) (k : Int) (h : asB 9 (atA av k).v = false) :
    Calls Try.prog 24 #[v, .int .i64 k] w fun e w' => ∃ T p, e = .panicked [{ v := .iface T p, recovered := false }] ∧ St w0 w' I L := by
  refine enter Try.func24 rfl (N := 9) rfl rfl ?_
  simp only [List.zipIdx_cons, List.zipIdx_nil, List.map_cons, List.map_nil, Nat.zero_add, Nat.reduceAdd]
  refine CW.seq ?_
  refine CW.region ?_
  refine RW.op1 rfl (runs_assign rfl) ?_
  refine RW.done ?_
  refine AQ.next ?_
  refine CW.seq ?_
  refine CW.region ?_
  refine RW.op1 rfl (runs_move rfl) ?_
  refine RW.op1 rfl (runs_move rfl) ?_
  refine RW.call rfl call25 rfl rfl (at_spec hst hv k) ?_
  rintro e w ⟨rfl, hst⟩
  refine ⟨_, rfl, ?_⟩
  obtain ⟨e, hte⟩ := tae
  obtain ⟨p, w', h1, h2⟩ := falls_assert (l := [(7, (atA av k).v), (6, .int .i64 k), (5, v), (4, .string ⟨#[]⟩), (0, v), (1, .int .i64 k)]) (x := .tmp 7) (t := 20) (ty := 9) con9 hte rfl (AV.isI (atA_good hgood k)) h hst
  refine RW.opP h1 (AQ.past_panic ?_)
  refine AQ.panicked ?_
  exact ⟨_, _, rfl, h2⟩
/-! ### The deferred closure: of a frame that panics, of one that returns -/
abbrev clo : Nat := 26
theorem St.cellAt (hst : St w0 w I L) {b : Nat} {u : Value} {T : TypeId} (hm : (b, Obj.cells #[u] T) ∈ L) : w.cell? ⟨b, 0, none⟩ = some u ∧ w.frozen? ⟨b, 0, none⟩ = false := by
  have hb := hst.own _ hm
  constructor
  · simp [World.cell?, hb]
  · simp [World.frozen?, hb]
theorem St.cellSet {b : Nat} {u u' : Value} {T : TypeId} (hst : St w0 w I ((b, .cells #[u] T) :: L)) : St w0 (w.setCell ⟨b, 0, none⟩ u') I ((b, .cells #[u'] T) :: L) := by
  have hb := hst.own _ (List.mem_cons_self ..)
  have h := hst.put (k := 0) (o' := .cells #[u'] T) (w' := w.setCell ⟨b, 0, none⟩ u') rfl rfl rfl rfl (World.heap_setCell_at hb) (fun j hj _ => by
    simp only [World.setCell]
    rw [Array.getElem?_modify, if_neg (Ne.symm hj)])
  simpa using h
theorem catch_panicking {b : Nat} {x : Bool} {T : TypeId} {t : TypeId} {pv : Value} {older : List PanicEntry} (hst : St w0 w I ((b, .cells #[.bool x] T) :: L)) :
    CallsD Try.prog clo #[.pointer (some ⟨b, 0, none⟩)] (.panicking ({ v := .iface t pv, recovered := false } :: older)) w fun e u' w' =>
      e = .returned (.tuple #[]) ∧ u' = .panicking ({ v := .iface t pv, recovered := true } :: older) ∧ St w0 w' I ((b, .cells #[.bool true] T) :: L) := by
  obtain ⟨hc, hz⟩ := hst.cellAt (List.mem_cons_self ..)
  have hset := hst.cellSet (u' := .bool true)
  refine callsD_of_wpS Try.func26 rfl fun c₀ cs hu => ?_
  apply wpS_region
  simp [wpOpsS, go_sem, recoverD, hu, Try.ntmps26, Exit.thenS, hc, hz]
  exact ⟨rfl, _, rfl, _, by simp [results, Try.results26, go_sem], rfl, rfl, hset⟩
theorem catch_idle {b : Nat} {x : Bool} {T : TypeId} (hst : St w0 w I ((b, .cells #[.bool x] T) :: L)) :
    CallsD Try.prog clo #[.pointer (some ⟨b, 0, none⟩)] .returning w fun e u' w' => e = .returned (.tuple #[]) ∧ u' = .returning ∧ St w0 w' I ((b, .cells #[.bool false] T) :: L) := by
  obtain ⟨hc, hz⟩ := hst.cellAt (List.mem_cons_self ..)
  have hset := hst.cellSet (u' := .bool false)
  refine callsD_of_wpS Try.func26 rfl fun c₀ cs hu => ?_
  apply wpS_region
  simp [wpOpsS, go_sem, recoverD, hu, Try.ntmps26, Exit.thenS, hc, hz]
  exact ⟨rfl, _, by cases c₀; simp_all, _, by simp [results, Try.results26, go_sem], rfl, rfl, hset⟩
abbrev mustD (b : Nat) : List Deferred := [{ target := .fn (.func clo) #[.pointer (some ⟨b, 0, none⟩)], args := #[] }]
theorem invoke_clo (p : Value) (w : World) : (invoke (.fn (.func clo) #[p]) #[]).run Try.prog w = .ok (.enter clo #[p]) w := by
  obtain ⟨fn, h1, h2, h3⟩ := call26
  have h2' : ¬ fn.name = "runtime.NumGoroutine" := by simpa using h2
  have h3' : ¬ fn.body = none := by intro e; simp [e] at h3
  simp [invoke, callFunc, program, h1, h2', h3', Sem.run, bind, Sem.bind, pure]
theorem res_cell {fn : Func} {D : List Deferred} {N : Nat} {l : Env} {a : Act} {t : Tmp} {T : TypeId} {v : Value} {ad : Addr} {P : Program} (ha : l.onD N D a) (hr : fn.results = #[.cell t T]) (ht : l.get t = some (.pointer (some ad))) (hv : (loadVar T ad).run P w = .ok v w) : (results fn a.tmps).run P w = .ok v w := by
  have h6 := resVals_ok (P := P) (w := w) (a := { a with defers := [] }) ⟨ha.1, rfl, ha.2.2⟩ [.cell t T] [v] ⟨⟨ad, ht, hv⟩, trivial⟩
  rw [results_eq, hr, show (#[ResultVar.cell t T] : Array ResultVar) = [ResultVar.cell t T].toArray from rfl, List.mapM_toArray]
  have h7 : (List.toArray <$> [ResultVar.cell t T].mapM (resVal a.tmps) : Sem (Array Value)).run P w = .ok [v].toArray w := by
    rw [map_eq_pure_bind, Sem.run_bind, h6]; rfl
  rw [Sem.run_bind, h7]
  simp [pure, Sem.run, Result.andThen]
theorem load_bool (hst : St w0 w I L) {b : Nat} {u : Value} (hm : (b, Obj.cells #[u] 4) ∈ L) : (loadVar 4 ⟨b, 0, none⟩).run Try.prog w = .ok u w := by
  have hs := sc4
  unfold isScalar at hs
  have hc := (hst.cellAt hm).1
  cases hu : Try.prog.underlying 4 with
  | none => simp [hu] at hs
  | some d =>
    simp only [loadVar, isAgg, Sem.run_bind, run_underlying hu, Result.andThen]
    cases d <;> simp [hu] at hs <;> simp [hc, go_sem]
set_option maxRecDepth 100000 in
theorem falls_spec (hst : St w0 w I L) {v : Value} {av : List AV} {m : Nat} {o : Bool} (hv : RdA I v av) (hgood : ∀ a ∈ av, a.good m o) (k : Int) (num : Bool) :
    Calls Try.prog 17 #[v, .int .i64 k, .bool num] w fun e w' => e = .returned (.bool !(asB (if num then 3 else 9) (atA av k).v)) ∧ St w0 w' I L := by
  refine enterD Try.func17 rfl (N := 15) rfl rfl ?_
  simp only [List.zipIdx_cons, List.zipIdx_nil, List.map_cons, List.map_nil, Nat.zero_add, Nat.reduceAdd]
  refine CWD.seq ?_
  refine CWD.region ?_
  refine RWD.opE rfl (runs_alloc ti4 hst) ?_
  rintro _ w ⟨b, rfl, hstn⟩
  clear hst
  have hst := hstn
  clear hstn
  refine RWD.done ?_
  refine AQD.next ?_
  refine CWD.seq ?_
  refine CWD.region ?_
  refine RWD.op1 rfl (runs_makeFunc (vs := [.pointer (some ⟨b, 0, none⟩)]) rfl) ?_
  refine RWD.defer rfl ?_
  refine RWD.done ?_
  refine AQD.next ?_
  have fin : ∀ {l : Env} {w : World}, St w0 w I ((b, .cells #[.bool false] 4) :: L) → ∀ r : Bool, r = true → (asB (if num then 3 else 9) (atA av k).v) = r → ∀ (a : Act), l.onD 15 (mustD b) a → l.get 6 = some (.pointer (some ⟨b, 0, none⟩)) →
      Leaves Try.prog Try.f17 a.tmps (fun e w' => e = .returned (.bool !(asB (if num then 3 else 9) (atA av k).v)) ∧ St w0 w' I L) (mustD b) .returning w := by
    intro l w hst r hr hb a ha h6
    refine leaves_cons (f := clo) (args := #[.pointer (some ⟨b, 0, none⟩)]) (by simp) (invoke_clo _ _) ?_
    refine (catch_idle hst).mono ?_
    rintro e u' w'' ⟨rfl, rfl, hst⟩
    refine ⟨.bool false, ?_, by rw [hb, hr]; rfl, hst.drop1⟩
    exact res_cell ha Try.results17 h6 (load_bool hst (List.mem_cons_self ..))
  have boom : ∀ {l : Env} {w : World}, St w0 w I ((b, .cells #[.bool false] 4) :: L) → (asB (if num then 3 else 9) (atA av k).v) = false → ∀ (T : TypeId) (p : Value) (a : Act), l.onD 15 (mustD b) a → l.get 6 = some (.pointer (some ⟨b, 0, none⟩)) →
      Leaves Try.prog Try.f17 a.tmps (fun e w' => e = .returned (.bool !(asB (if num then 3 else 9) (atA av k).v)) ∧ St w0 w' I L) (mustD b) (.panicking [{ v := .iface T p, recovered := false }]) w := by
    intro l w hst hb T p a ha h6
    refine leaves_cons (f := clo) (args := #[.pointer (some ⟨b, 0, none⟩)]) (by simp) (invoke_clo _ _) ?_
    refine (catch_panicking hst).mono ?_
    rintro e u' w'' ⟨rfl, rfl, hst⟩
    refine ⟨.bool true, ?_, by rw [hb]; rfl, hst.drop1⟩
    exact res_cell ha Try.results17 h6 (load_bool hst (List.mem_cons_self ..))
  refine CWD.seq ?_
  refine CWD.seq ?_
  refine CWD.region ?_
  refine RWD.op1 rfl (runs_move rfl) ?_
  refine RWD.done ?_
  refine AQD.next ?_
  refine CWD.cond rfl (fun hn => ?_) (fun hn => ?_)
  · subst hn
    refine CWD.region ?_
    refine RWD.op1 rfl (runs_move rfl) ?_
    refine RWD.op1 rfl (runs_move rfl) ?_
    cases hb : asB 3 (atA av k).v with
    | true =>
      obtain ⟨n, hn⟩ := AV.asB_num (atA_good hgood k) hb
      refine RWD.call rfl call23 rfl rfl (mustint_spec hst hv k n hn) ?_
      rintro e w ⟨rfl, hst⟩
      refine .inl ⟨_, rfl, ?_⟩
      refine RWD.done ?_
      refine AQD.next ?_
      refine CWD.seq ?_
      refine CWD.region ?_
      refine RWD.opE0 (runs_store1P ti4 rfl rfl hst (k := 0) rfl rfl (NoFz.zero _) rfl) ?_
      rintro w hst
      refine RWD.done ?_
      refine AQD.next ?_
      refine CWD.ret ?_
      exact fun a ha => (by
        show Leaves _ _ a.tmps _ a.defers _ _
        rw [ha.2.1]
        exact fin hst true rfl hb a ha rfl)
    | false =>
      refine RWD.call rfl call23 rfl rfl (mustint_bad hst hv hgood k hb) ?_
      rintro e w ⟨T, p, rfl, hst⟩
      exact .inr ⟨_, rfl, fun a ha => (by
        show Leaves _ _ a.tmps _ a.defers _ _
        rw [ha.2.1]
        exact boom hst hb T p a ha rfl)⟩
  · subst hn
    refine CWD.region ?_
    refine RWD.op1 rfl (runs_move rfl) ?_
    refine RWD.op1 rfl (runs_move rfl) ?_
    cases hb : asB 9 (atA av k).v with
    | true =>
      obtain ⟨n, hn⟩ := AV.asB_txt (atA_good hgood k) hb
      refine RWD.call rfl call24 rfl rfl (musttext_spec hst hv k n hn) ?_
      rintro e w ⟨rfl, hst⟩
      refine .inl ⟨_, rfl, ?_⟩
      refine RWD.done ?_
      refine AQD.next ?_
      refine CWD.seq ?_
      refine CWD.region ?_
      refine RWD.opE0 (runs_store1P ti4 rfl rfl hst (k := 0) rfl rfl (NoFz.zero _) rfl) ?_
      rintro w hst
      refine RWD.done ?_
      refine AQD.next ?_
      refine CWD.ret ?_
      exact fun a ha => (by
        show Leaves _ _ a.tmps _ a.defers _ _
        rw [ha.2.1]
        exact fin hst true rfl hb a ha rfl)
    | false =>
      refine RWD.call rfl call24 rfl rfl (musttext_bad hst hv hgood k hb) ?_
      rintro e w ⟨T, p, rfl, hst⟩
      exact .inr ⟨_, rfl, fun a ha => (by
        show Leaves _ _ a.tmps _ a.defers _ _
        rw [ha.2.1]
        exact boom hst hb T p a ha rfl)⟩
end Go.Proofs.YtoegloebnnjflaaX
