/- A function's results, some of them in memory; more small rules. Own lemmas, no program in sight. -/
import Derived.Test.YtlmmpcdjkpibcaaX7
namespace Go.Proofs.YtlmmpcdjkpibcaaX
set_option linter.unusedVariables false
set_option linter.unusedSimpArgs false
open Go Go.RowKit
variable {w0 w : World} {I : Imm} {L : Own} {P : Program} {l : Env} {ty : TypeId} {N : Nat}

def ResOk (P : Program) (l : Env) (w : World) : ResultVar → Value → Prop
  | .tmp t, v => l.get t = some v
  | .cell t T, v => ∃ a, l.get t = some (.pointer (some a)) ∧ (loadVar T a).run P w = .ok v w
def ResAll (P : Program) (l : Env) (w : World) : List ResultVar → List Value → Prop
  | [], [] => True
  | r :: rs, v :: vs => ResOk P l w r v ∧ ResAll P l w rs vs
  | _, _ => False
def resVal (tmps : Array Value) : ResultVar → Sem Value
  | .tmp t => pure (tmps.getD t undef)
  | .cell a t => do loadVar t (← asAddr (tmps.getD a undef))
theorem results_eq (fn : Func) (tmps : Array Value) : results fn tmps = (do
    let vs ← fn.results.mapM (resVal tmps)
    pure (if h : vs.size = 1 then vs[0] else .tuple vs)) := by
  unfold results
  congr 1
theorem resVal_ok {a : Act} (ha : l.on N a) {r : ResultVar} {v : Value} (h : ResOk P l w r v) : (resVal a.tmps r).run P w = .ok v w := by
  cases r with
  | tmp t => simp only [resVal, ha.2.2 t v h]; rfl
  | cell t T =>
    obtain ⟨ad, h4, h5⟩ := h
    simp only [resVal, ha.2.2 t _ h4, asAddr]
    exact h5
theorem resVals_ok {a : Act} (ha : l.on N a) : ∀ (rs : List ResultVar) (vs : List Value), ResAll P l w rs vs → (rs.mapM (resVal a.tmps)).run P w = .ok vs w
  | [], [], _ => rfl
  | [], _ :: _, h => h.elim
  | _ :: _, [], h => h.elim
  | r :: rs, v :: vs, h => by
    rw [List.mapM_cons]
    simp only [Sem.run_bind, resVal_ok ha h.1, Result.andThen, resVals_ok ha rs vs h.2]
    rfl
theorem AQ.retL {fn : Func} {R : Ending → World → Prop} {rs : List ResultVar} {vs : List Value} (hr : fn.results = rs.toArray) (hv : ResAll P l w rs vs) (hlen : vs.length ≠ 1) (h : R (.returned (.tuple vs.toArray)) w) : AQ N (bodyPost P fn R) .ret l w := fun a ha => by
  refine ⟨ha.2.1, .tuple vs.toArray, ?_, h⟩
  have h6 := resVals_ok ha rs vs hv
  rw [results_eq, hr, List.mapM_toArray]
  have h7 : (List.toArray <$> rs.mapM (resVal a.tmps) : Sem (Array Value)).run P w = .ok vs.toArray w := by
    rw [map_eq_pure_bind, Sem.run_bind, h6]; rfl
  rw [Sem.run_bind, h7]
  simp [hlen, pure, Sem.run, Result.andThen]
/-- One result, a struct in memory. -/
theorem AQ.retS {fn : Func} {R : Ending → World → Prop} {t : Tmp} {T : TypeId} {v : Value} {a : Addr} (hr : fn.results = #[.cell t T]) (ht : l.get t = some (.pointer (some a))) (hv : (loadVar T a).run P w = .ok v w) (h : R (.returned v) w) : AQ N (bodyPost P fn R) .ret l w := fun ac ha => by
  refine ⟨ha.2.1, v, ?_, h⟩
  have h6 := resVals_ok (P := P) (w := w) ha [.cell t T] [v] ⟨⟨a, ht, hv⟩, trivial⟩
  rw [results_eq, hr, show (#[ResultVar.cell t T] : Array ResultVar) = [ResultVar.cell t T].toArray from rfl, List.mapM_toArray]
  have h7 : (List.toArray <$> [ResultVar.cell t T].mapM (resVal ac.tmps) : Sem (Array Value)).run P w = .ok [v].toArray w := by
    rw [map_eq_pure_bind, Sem.run_bind, h6]; rfl
  rw [Sem.run_bind, h7]
  simp [pure, Sem.run, Result.andThen]
/-- A struct of one's own block. -/
theorem St.loadO (hst : St w0 w I L) {S : TypeId} {z : Value} {n bytes : Nat} {k b off : Nat} {cs : Array Value} {T : TypeId} {fz : Nat × Nat} (hT : isAggT P S = true) (ht : TI P S z n bytes)
    (hL : L[k]? = some (b, .cells cs T fz)) (hn : ((cs.toList.drop off).take n).length = n) : (loadVar S ⟨b, off, none⟩).run P w = .ok (.agg ((cs.toList.drop off).take n).toArray) w := by
  have h1 := run_loadCells_list (P := P) w ⟨b, off, none⟩ ((cs.toList.drop off).take n) (hst.cells_own hL (by rw [hn]))
  rw [hn] at h1
  unfold loadVar
  simp only [Sem.run_bind, run_isAgg hT, Result.andThen, if_true, ht.run_size, h1]
  rfl
/-- Loads while a region that draws is under way. -/
theorem FSt.load1 {x : Operand} {T : TypeId} {a : Addr} {v : Value} (hT : isScalar P T = true) (h : ev l x = some (.pointer (some a))) (hc : I.cell? a = some v) : ∀ w', FSt w0 I L w' → Runs P (.load T x) ty l w' (.value v) w' :=
  fun w' ⟨I', hI', hst'⟩ => runs_load1 hT h (hst'.cell_imm (hI'.cell hc))
theorem FSt.load1_own {x : Operand} {S : TypeId} {k b off : Nat} {cs : Array Value} {T : TypeId} {fz : Nat × Nat} {v : Value} (hT : isScalar P S = true) (h : ev l x = some (.pointer (some ⟨b, off, none⟩))) (hL : L[k]? = some (b, .cells cs T fz)) (hi : cs[off]? = some v) :
    ∀ w', FSt w0 I L w' → Runs P (.load S x) ty l w' (.value v) w' :=
  fun w' ⟨I', hI', hst'⟩ => runs_load1 hT h (hst'.cell_own hL hi)
theorem FSt.loadO {x : Operand} {S : TypeId} {z : Value} {n bytes : Nat} {k b off : Nat} {cs : Array Value} {T : TypeId} {fz : Nat × Nat} (hT : isAggT P S = true) (ht : TI P S z n bytes) (h : ev l x = some (.pointer (some ⟨b, off, none⟩)))
    (hL : L[k]? = some (b, .cells cs T fz)) (hn : ((cs.toList.drop off).take n).length = n) : ∀ w', FSt w0 I L w' → Runs P (.load S x) ty l w' (.value (.agg ((cs.toList.drop off).take n).toArray)) w' :=
  fun w' ⟨I', hI', hst'⟩ => runs_loadO hT ht h hst' hL hn
theorem FSt.string {s d e : TypeId} {x : Operand} {v : Value} {bs : List UInt8} (hs : P.underlying s = some (.slice e)) (he : P.underlying e = some (.int .u8)) (hd : P.underlying d = some .string) (hx : ev l x = some v) (hr : RdB I v bs) :
    ∀ w', FSt w0 I L w' → Runs P (.convert s d x) ty l w' (.value (.string (strOf bs))) w' :=
  fun w' ⟨I', hI', hst'⟩ => RdB.string hs he hd hx (hr.mono hI') hst'

/-! ### Structs and arrays, built -/
def vcells : Value → List Value
  | .agg cs => cs.toList
  | v => [v]
def bfill (places : Nat → Option (Nat × Nat)) : List Value → List (Nat × Value) → Option (List Value)
  | cs, [] => some cs
  | cs, (i, v) :: r => match places i with
    | none => none
    | some (off, size) => if (vcells v).length = size ∧ off + size ≤ cs.length then bfill places (cs.take off ++ vcells v ++ cs.drop (off + size)) r else none
theorem set_many (vs : List Value) : ∀ (k off : Nat) (cs : Array Value), off + k + vs.length ≤ cs.size →
    (vs.zipIdx k).foldl (fun (c : Array Value) (p : Value × Nat) => c.setIfInBounds (off + p.2) p.1) cs = (cs.toList.take (off + k) ++ vs ++ cs.toList.drop (off + k + vs.length)).toArray := by
  induction vs with
  | nil => intro k off cs _; simp
  | cons v r ih =>
    intro k off cs hle
    simp only [List.length_cons] at hle
    rw [List.zipIdx_cons, List.foldl_cons, ih (k + 1) off _ (by rw [Array.size_setIfInBounds]; omega)]
    congr 1
    rw [Array.toList_setIfInBounds]
    have hlen : off + k < cs.toList.length := by simp; omega
    rw [List.set_eq_take_append_cons_drop, if_pos hlen]
    have ht : (cs.toList.take (off + k)).length = off + k := by rw [List.length_take]; omega
    rw [List.take_append, List.drop_append, ht]
    have e1 : off + (k + 1) - (off + k) = 1 := by omega
    have e2 : off + (k + 1) + r.length - (off + k) = r.length + 1 := by omega
    rw [e1, e2, List.take_of_length_le (l := cs.toList.take (off + k)) (by omega), List.drop_eq_nil_of_le (as := cs.toList.take (off + k)) (by omega)]
    simp only [List.take_succ_cons, List.take_zero, List.nil_append, List.drop_succ_cons, List.drop_drop, List.length_cons, List.append_assoc, List.cons_append]
    rw [show off + k + (r.length + 1) = off + k + 1 + r.length from by omega]
theorem vcells_eq (v : Value) : vcells v = v.cells.toList := by cases v <;> rfl
theorem fill_of {places : Nat → Option (Nat × Nat)} : ∀ {parts : List (Nat × Value)} {cs r : List Value}, bfill places cs parts = some r → Instr.fill places cs.toArray parts = some r.toArray
  | [], cs, r, h => by simp [bfill] at h; subst h; rfl
  | (i, v) :: rest, cs, r, h => by
    unfold bfill at h
    unfold Instr.fill
    cases hp : places i with
    | none => simp [hp] at h
    | some q =>
      obtain ⟨off, size⟩ := q
      simp only [hp] at h ⊢
      split at h
      · rename_i hc
        rw [vcells_eq] at hc h
        have h1 : v.cells.size = size := by rw [← hc.1]; simp
        have h2 : ¬ ((v.cells.size ≠ size || off + v.cells.size > cs.toArray.size) = true) := by
          simp [h1]; omega
        rw [if_neg h2]
        have h3 := set_many v.cells.toList 0 off cs.toArray (by simp only [Nat.add_zero, List.size_toArray]; have := hc.2; rw [hc.1]; omega)
        have h4 : (v.cells.zipIdx.foldl (fun (c : Array Value) (p : Value × Nat) => c.setIfInBounds (off + p.2) p.1) cs.toArray) = (v.cells.toList.zipIdx 0).foldl (fun (c : Array Value) (p : Value × Nat) => c.setIfInBounds (off + p.2) p.1) cs.toArray := by
          rw [← Array.foldl_toList, Array.toList_zipIdx]
        have h5 : (v.cells.zipIdx.foldl (fun cs (x : Value × Nat) => match x with | (c, j) => cs.setIfInBounds (off + j) c) cs.toArray) = (cs.take off ++ v.cells.toList ++ cs.drop (off + size)).toArray := by
          refine (Eq.trans ?_ h4).trans (h3.trans ?_)
          · rfl
          · simp only [Nat.add_zero, hc.1]
        rw [h5]
        exact fill_of h
      · cases h
/-- What the tables say of a struct's or an array's making. -/
def BZ (P : Program) (t : TypeId) (zc : List Value) (places : List (Nat × Nat)) : Prop :=
  (match P.info? t, P.underlying t with
   | some it, some (.struct fields) => (it.zero.map (·.cells.toList), fields.toList.mapM (fun f => (P.info? f.type).map fun i => (f.offset, i.size)))
   | _, _ => (none, none)) = (some zc, some places)
theorem BZ.built {t : TypeId} {zc : List Value} {places : List (Nat × Nat)} (h : BZ P t zc places) {parts : List (Nat × Value)} {cells : List Value} (hf : bfill (places[·]?) zc parts = some cells) : P.built t parts = some cells.toArray := by
  unfold BZ at h
  unfold Program.built
  cases hi : P.info? t with
  | none => simp [hi] at h
  | some it => cases hu : P.underlying t with
    | none => simp [hi, hu] at h
    | some d =>
      simp only [hi, hu] at h
      cases d <;> simp at h
      rename_i fields
      obtain ⟨⟨z, hz, hzc⟩, hm⟩ := h
      have hm' : (fields.toList.mapM fun f => (P.info? f.type).map fun i => (f.offset, i.size)) = some places := by simpa using hm
      simp only [hz, hm']
      have h1 := fill_of hf
      rw [← hzc] at h1
      simpa using h1
theorem runs_buildF {t : TypeId} {parts : List (Nat × Operand)} {vs : List (Nat × Value)} {xs : List Value} {is_ : List Nat} {cells : List Value} {zc : List Value} {places : List (Nat × Nat)} (hz : BZ P t zc places) (hv : evs l (parts.map (·.2)) = some xs) (hi : parts.map (·.1) = is_) (hvs : is_.zip xs = vs) (hlen : is_.length = xs.length) (hb : bfill (places[·]?) zc vs = some cells) :
    Runs P (.build t parts.toArray) ty l w (.value (.agg cells.toArray)) w := by
  subst hvs
  have h1 : (is_.zip xs).map (·.1) = is_ := List.map_fst_zip (by omega)
  have h2 : (is_.zip xs).map (·.2) = xs := List.map_snd_zip (by omega)
  exact runs_build (vs := is_.zip xs) (by rw [h2]; exact hv) (by rw [h1]; exact hi) (hz.built hb)
theorem allOne {vs : List Value} (h : vs.all Value.oneCell' = true) : ∀ v ∈ vs, v.oneCell' = true := fun v hv => List.all_eq_true.1 h v hv
/-- A whole block is written. -/
theorem runs_storeW {x y : Operand} {S : TypeId} {z : Value} {n bytes : Nat} {k b : Nat} {cs : Array Value} {T : TypeId} {fz : Nat × Nat} {vs : List Value} (ht : TI P S z n bytes) (hx : ev l x = some (.pointer (some ⟨b, 0, none⟩))) (hy : ev l y = some (.agg vs.toArray)) (hst : St w0 w I L)
    (hL : L[k]? = some (b, .cells cs T fz)) (hn : vs.length = n) (hsz : cs.size = n) (hfz : NoFz cs.size fz) (hv : vs.all Value.oneCell' = true) :
    ∃ w', Runs P (.store S x y) ty l w .skip w' ∧ St w0 w' I (L.set k (b, .cells vs.toArray T fz)) := by
  subst hn
  obtain ⟨w', h1, h2⟩ := runs_storeA (ty := ty) ht hx hy hst hL (by omega) hfz (allOne hv)
  refine ⟨w', h1, ?_⟩
  have e : cs.toList.take 0 ++ vs ++ cs.toList.drop (0 + vs.length) = vs := by
    rw [List.drop_eq_nil_of_le (by simp; omega)]; simp
  rw [e] at h2
  exact h2
theorem runs_storeP {x y : Operand} {S : TypeId} {z : Value} {n bytes : Nat} {k b off : Nat} {cs : Array Value} {T : TypeId} {fz : Nat × Nat} {vs : List Value} (ht : TI P S z n bytes) (hx : ev l x = some (.pointer (some ⟨b, off, none⟩))) (hy : ev l y = some (.agg vs.toArray)) (hst : St w0 w I L)
    (hL : L[k]? = some (b, .cells cs T fz)) (hn : vs.length = n) (hoff : Nat.ble (off + n) cs.size = true) (hfz : NoFz cs.size fz) (hv : vs.all Value.oneCell' = true) :
    ∃ w', Runs P (.store S x y) ty l w .skip w' ∧ St w0 w' I (L.set k (b, .cells (cs.toList.take off ++ vs ++ cs.toList.drop (off + vs.length)).toArray T fz)) := by
  subst hn
  exact runs_storeA ht hx hy hst hL (by simpa using hoff) hfz (allOne hv)
theorem runs_store1P {x y : Operand} {S : TypeId} {z : Value} {bytes : Nat} {k b off : Nat} {cs : Array Value} {T : TypeId} {fz : Nat × Nat} {v : Value} (ht : TI P S z 1 bytes) (hx : ev l x = some (.pointer (some ⟨b, off, none⟩))) (hy : ev l y = some v) (hst : St w0 w I L)
    (hL : L[k]? = some (b, .cells cs T fz)) (hoff : Nat.blt off cs.size = true) (hfz : NoFz cs.size fz) (hv : v.oneCell' = true) :
    ∃ w', Runs P (.store S x y) ty l w .skip w' ∧ St w0 w' I (L.set k (b, .cells (cs.setIfInBounds off v) T fz)) := runs_store1 ht hx hy hst hL (by simpa [Nat.blt_eq] using hoff) hfz hv
theorem runs_loadN {x : Operand} {S : TypeId} {z : Value} {n bytes : Nat} {k b off : Nat} {cs : Array Value} {T : TypeId} {fz : Nat × Nat} {vs : List Value} (hT : isAggT P S = true) (ht : TI P S z n bytes) (h : ev l x = some (.pointer (some ⟨b, off, none⟩))) (hst : St w0 w I L)
    (hL : L[k]? = some (b, .cells cs T fz)) (hv : (cs.toList.drop off).take n = vs) (hn : vs.length = n) : Runs P (.load S x) ty l w (.value (.agg vs.toArray)) w := by
  subst hv
  exact runs_loadO hT ht h hst hL hn
theorem FSt.loadN {x : Operand} {S : TypeId} {z : Value} {n bytes : Nat} {k b off : Nat} {cs : Array Value} {T : TypeId} {fz : Nat × Nat} {vs : List Value} (hT : isAggT P S = true) (ht : TI P S z n bytes) (h : ev l x = some (.pointer (some ⟨b, off, none⟩)))
    (hL : L[k]? = some (b, .cells cs T fz)) (hv : (cs.toList.drop off).take n = vs) (hn : vs.length = n) : ∀ w', FSt w0 I L w' → Runs P (.load S x) ty l w' (.value (.agg vs.toArray)) w' := by
  subst hv
  exact FSt.loadO hT ht h hL hn
theorem St.loadN (hst : St w0 w I L) {S : TypeId} {z : Value} {n bytes : Nat} {k b off : Nat} {cs : Array Value} {T : TypeId} {fz : Nat × Nat} {vs : List Value} (hT : isAggT P S = true) (ht : TI P S z n bytes)
    (hL : L[k]? = some (b, .cells cs T fz)) (hv : (cs.toList.drop off).take n = vs) (hn : vs.length = n) : (loadVar S ⟨b, off, none⟩).run P w = .ok (.agg vs.toArray) w := by
  subst hv
  exact hst.loadO hT ht hL hn
end Go.Proofs.YtlmmpcdjkpibcaaX
