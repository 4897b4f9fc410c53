/- Parts of a proof, joined: walks through the program's functions and their laws, in the order in which they need each other. -/
import Derived.Test.YtadgbifmiooikaaPLa
import Derived.Laws.StructEq
import Derived.Below
import Derived.Lib.AppendStr
import Derived.Test.YtadgbifmiooikaaProg
import Derived.KernelRfl
import Derived.Laws.IdiomStrings
import Derived.Lib.OthersKept
import Derived.Lib.MapLaws
import Derived.Laws.Runes
import Derived.Laws.StandIn
import Derived.Lib.Bytealg
import Derived.Lib.QuoteLoop
import Derived.Lib.TrimUEq
import Derived.Recover
import Derived.Laws.CopyRow
import Derived.Laws.IdiomCopy
import Derived.MapKept
import Derived.Laws.IdiomRangeMap
import Derived.Shelf.Sort.Plain
import Derived.Sort.EncStr
import Derived.Maps.Own
import Derived.Lib.SlKeysI
namespace Go.Proofs.YtadgbifmiooikaaX
set_option linter.unusedVariables false
set_option linter.unusedSimpArgs false
open Go Go.RowKit
variable {w0 w : World} {I : Imm} {L : Own} {P : Program} {l : Env} {ty : TypeId} {N : Nat}
def ResOk (P : Program) (l : Env) (w : World) : ResultVar → Value → Prop
  | .tmp t, v => l.get t = some v
  | .cell t T, v => ∃ a, l.get t = some (.pointer (some a)) ∧ (loadVar T a).run P w = .ok v w
def ResAll (P : Program) (l : Env) (w : World) : List ResultVar → List Value → Prop
  | [], [] => True
  | r :: rs, v :: vs => ResOk P l w r v ∧ ResAll P l w rs vs
  | _, _ => False
def resVal (tmps : Array Value) : ResultVar → Sem Value
  | .tmp t => pure (tmps.getD t undef)
  | .cell a t => do loadVar t (← asAddr (tmps.getD a undef))
theorem results_eq (fn : Func) (tmps : Array Value) : results fn tmps = (do
    let vs ← fn.results.mapM (resVal tmps)
    pure (if h : vs.size = 1 then vs[0] else .tuple vs)) := by
  unfold results
  congr 1
theorem resVal_ok {a : Act} (ha : l.on N a) {r : ResultVar} {v : Value} (h : ResOk P l w r v) : (resVal a.tmps r).run P w = .ok v w := by
  cases r with
  | tmp t => simp only [resVal, ha.2.2 t v h]; rfl
  | cell t T =>
    obtain ⟨ad, h4, h5⟩ := h
    simp only [resVal, ha.2.2 t _ h4, asAddr]
    exact h5
theorem resVals_ok {a : Act} (ha : l.on N a) : ∀ (rs : List ResultVar) (vs : List Value), ResAll P l w rs vs → (rs.mapM (resVal a.tmps)).run P w = .ok vs w
  | [], [], _ => rfl
  | [], _ :: _, h => h.elim
  | _ :: _, [], h => h.elim
  | r :: rs, v :: vs, h => by
    rw [List.mapM_cons]
    simp only [Sem.run_bind, resVal_ok ha h.1, Result.andThen, resVals_ok ha rs vs h.2]
    rfl
theorem AQ.retL {fn : Func} {R : Ending → World → Prop} {rs : List ResultVar} {vs : List Value} (hr : fn.results = rs.toArray) (hv : ResAll P l w rs vs) (hlen : vs.length ≠ 1) (h : R (.returned (.tuple vs.toArray)) w) : AQ N (bodyPost P fn R) .ret l w := fun a ha => by
  refine ⟨ha.2.1, .tuple vs.toArray, ?_, h⟩; have h6 := resVals_ok ha rs vs hv; rw [results_eq, hr, List.mapM_toArray]
  have h7 : (List.toArray <$> rs.mapM (resVal a.tmps) : Sem (Array Value)).run P w = .ok vs.toArray w := by
    rw [map_eq_pure_bind, Sem.run_bind, h6]; rfl
  rw [Sem.run_bind, h7]
  simp [hlen, pure, Sem.run, Result.andThen]
theorem AQ.retS {fn : Func} {R : Ending → World → Prop} {t : Tmp} {T : TypeId} {v : Value} {a : Addr} (hr : fn.results = #[.cell t T]) (ht : l.get t = some (.pointer (some a))) (hv : (loadVar T a).run P w = .ok v w) (h : R (.returned v) w) : AQ N (bodyPost P fn R) .ret l w := fun ac ha => by
  refine ⟨ha.2.1, v, ?_, h⟩; have h6 := resVals_ok (P := P) (w := w) ha [.cell t T] [v] ⟨⟨a, ht, hv⟩, trivial⟩; rw [results_eq, hr, show (#[ResultVar.cell t T] : Array ResultVar) = [ResultVar.cell t T].toArray from rfl, List.mapM_toArray]
  have h7 : (List.toArray <$> [ResultVar.cell t T].mapM (resVal ac.tmps) : Sem (Array Value)).run P w = .ok [v].toArray w := by
    rw [map_eq_pure_bind, Sem.run_bind, h6]; rfl
  rw [Sem.run_bind, h7]
  simp [pure, Sem.run, Result.andThen]
theorem St.loadO (hst : St w0 w I L) {S : TypeId} {z : Value} {n bytes : Nat} {k b off : Nat} {cs : Array Value} {T : TypeId} {fz : Nat × Nat} (hT : isAggT P S = true) (ht : TI P S z n bytes)
    (hL : L[k]? = some (b, .cells cs T fz)) (hn : ((cs.toList.drop off).take n).length = n) : (loadVar S ⟨b, off, none⟩).run P w = .ok (.agg ((cs.toList.drop off).take n).toArray) w := by
  have h1 := run_loadCells_list (P := P) w ⟨b, off, none⟩ ((cs.toList.drop off).take n) (hst.cells_own hL (by rw [hn])); rw [hn] at h1; unfold loadVar
  simp only [Sem.run_bind, run_isAgg hT, Result.andThen, if_true, ht.run_size, h1]
  rfl
theorem FSt.load1 {x : Operand} {T : TypeId} {a : Addr} {v : Value} (hT : isScalar P T = true) (h : ev l x = some (.pointer (some a))) (hc : I.cell? a = some v) : ∀ w', FSt w0 I L w' → Runs P (.load T x) ty l w' (.value v) w' :=
  fun w' ⟨I', hI', hst'⟩ => runs_load1 hT h (hst'.cell_imm (hI'.cell hc))
theorem FSt.load1_own {x : Operand} {S : TypeId} {k b off : Nat} {cs : Array Value} {T : TypeId} {fz : Nat × Nat} {v : Value} (hT : isScalar P S = true) (h : ev l x = some (.pointer (some ⟨b, off, none⟩))) (hL : L[k]? = some (b, .cells cs T fz)) (hi : cs[off]? = some v) :
    ∀ w', FSt w0 I L w' → Runs P (.load S x) ty l w' (.value v) w' :=
  fun w' ⟨I', hI', hst'⟩ => runs_load1 hT h (hst'.cell_own hL hi)
theorem FSt.loadO {x : Operand} {S : TypeId} {z : Value} {n bytes : Nat} {k b off : Nat} {cs : Array Value} {T : TypeId} {fz : Nat × Nat} (hT : isAggT P S = true) (ht : TI P S z n bytes) (h : ev l x = some (.pointer (some ⟨b, off, none⟩)))
    (hL : L[k]? = some (b, .cells cs T fz)) (hn : ((cs.toList.drop off).take n).length = n) : ∀ w', FSt w0 I L w' → Runs P (.load S x) ty l w' (.value (.agg ((cs.toList.drop off).take n).toArray)) w' :=
  fun w' ⟨I', hI', hst'⟩ => runs_loadO hT ht h hst' hL hn
theorem FSt.string {s d e : TypeId} {x : Operand} {v : Value} {bs : List UInt8} (hs : P.underlying s = some (.slice e)) (he : P.underlying e = some (.int .u8)) (hd : P.underlying d = some .string) (hx : ev l x = some v) (hr : RdB I v bs) :
    ∀ w', FSt w0 I L w' → Runs P (.convert s d x) ty l w' (.value (.string (strOf bs))) w' :=
  fun w' ⟨I', hI', hst'⟩ => RdB.string hs he hd hx (hr.mono hI') hst'
def vcells : Value → List Value
  | .agg cs => cs.toList
  | v => [v]
def bfill (places : Nat → Option (Nat × Nat)) : List Value → List (Nat × Value) → Option (List Value)
  | cs, [] => some cs
  | cs, (i, v) :: r => match places i with
    | none => none
    | some (off, size) => if (vcells v).length = size ∧ off + size ≤ cs.length then bfill places (cs.take off ++ vcells v ++ cs.drop (off + size)) r else none
theorem set_many (vs : List Value) : ∀ (k off : Nat) (cs : Array Value), off + k + vs.length ≤ cs.size →
    (vs.zipIdx k).foldl (fun (c : Array Value) (p : Value × Nat) => c.setIfInBounds (off + p.2) p.1) cs = (cs.toList.take (off + k) ++ vs ++ cs.toList.drop (off + k + vs.length)).toArray := by
  induction vs with
  | nil => intro k off cs _; simp
  | cons v r ih =>
    intro k off cs hle
    simp only [List.length_cons] at hle
    rw [List.zipIdx_cons, List.foldl_cons, ih (k + 1) off _ (by rw [Array.size_setIfInBounds]; omega)]
    congr 1
    rw [Array.toList_setIfInBounds]
    have hlen : off + k < cs.toList.length := by simp; omega
    rw [List.set_eq_take_append_cons_drop, if_pos hlen]
    have ht : (cs.toList.take (off + k)).length = off + k := by rw [List.length_take]; omega
    rw [List.take_append, List.drop_append, ht]
    have e1 : off + (k + 1) - (off + k) = 1 := by omega
    have e2 : off + (k + 1) + r.length - (off + k) = r.length + 1 := by omega
    rw [e1, e2, List.take_of_length_le (l := cs.toList.take (off + k)) (by omega), drop_nil_of (l := cs.toList.take (off + k)) (by omega)]
    simp only [List.take_succ_cons, List.take_zero, List.nil_append, List.drop_succ_cons, List.drop_drop, List.length_cons, List.append_assoc, List.cons_append]
    rw [show off + k + (r.length + 1) = off + k + 1 + r.length from by omega]
theorem vcells_eq (v : Value) : vcells v = v.cells.toList := by cases v <;> rfl
theorem fill_of {places : Nat → Option (Nat × Nat)} : ∀ {parts : List (Nat × Value)} {cs r : List Value}, bfill places cs parts = some r → Instr.fill places cs.toArray parts = some r.toArray
  | [], cs, r, h => by simp [bfill] at h; subst h; rfl
  | (i, v) :: rest, cs, r, h => by
    unfold bfill at h; unfold Instr.fill
    cases hp : places i with
    | none => simp [hp] at h
    | some q =>
      obtain ⟨off, size⟩ := q
      simp only [hp] at h ⊢
      split at h
      · rename_i hc
        rw [vcells_eq] at hc h
        have h1 : v.cells.size = size := by rw [← hc.1]; simp
        have h2 : ¬ ((v.cells.size ≠ size || off + v.cells.size > cs.toArray.size) = true) := by
          simp [h1]; omega
        rw [if_neg h2]; have h3 := set_many v.cells.toList 0 off cs.toArray (by simp only [Nat.add_zero, List.size_toArray]; have := hc.2; rw [hc.1]; omega)
        have h4 : (v.cells.zipIdx.foldl (fun (c : Array Value) (p : Value × Nat) => c.setIfInBounds (off + p.2) p.1) cs.toArray) = (v.cells.toList.zipIdx 0).foldl (fun (c : Array Value) (p : Value × Nat) => c.setIfInBounds (off + p.2) p.1) cs.toArray := by
          rw [← Array.foldl_toList, Array.toList_zipIdx]
        have h5 : (v.cells.zipIdx.foldl (fun cs (x : Value × Nat) => match x with | (c, j) => cs.setIfInBounds (off + j) c) cs.toArray) = (cs.take off ++ v.cells.toList ++ cs.drop (off + size)).toArray := by
          refine (Eq.trans ?_ h4).trans (h3.trans ?_)
          · rfl
          · simp only [Nat.add_zero, hc.1]
        rw [h5]; exact fill_of h
      · cases h
def BZ (P : Program) (t : TypeId) (zc : List Value) (places : List (Nat × Nat)) : Prop :=
  (match P.info? t, P.underlying t with
   | some it, some (.struct fields) => (it.zero.map (·.cells.toList), fields.toList.mapM (fun f => (P.info? f.type).map fun i => (f.offset, i.size)))
   | _, _ => (none, none)) = (some zc, some places)
theorem BZ.built {t : TypeId} {zc : List Value} {places : List (Nat × Nat)} (h : BZ P t zc places) {parts : List (Nat × Value)} {cells : List Value} (hf : bfill (places[·]?) zc parts = some cells) : P.built t parts = some cells.toArray := by
  unfold BZ at h; unfold Program.built
  cases hi : P.info? t with
  | none => simp [hi] at h
  | some it => cases hu : P.underlying t with
    | none => simp [hi, hu] at h
    | some d =>
      simp only [hi, hu] at h
      cases d <;> simp at h
      rename_i fields
      obtain ⟨⟨z, hz, hzc⟩, hm⟩ := h
      have hm' : (fields.toList.mapM fun f => (P.info? f.type).map fun i => (f.offset, i.size)) = some places := by simpa using hm
      simp only [hz, hm']
      have h1 := fill_of hf; rw [← hzc] at h1
      simpa using h1
theorem runs_buildF {t : TypeId} {parts : List (Nat × Operand)} {vs : List (Nat × Value)} {xs : List Value} {is_ : List Nat} {cells : List Value} {zc : List Value} {places : List (Nat × Nat)} (hz : BZ P t zc places) (hv : evs l (parts.map (·.2)) = some xs) (hi : parts.map (·.1) = is_) (hvs : is_.zip xs = vs) (hlen : is_.length = xs.length) (hb : bfill (places[·]?) zc vs = some cells) :
    Runs P (.build t parts.toArray) ty l w (.value (.agg cells.toArray)) w := by
  subst hvs; have h1 : (is_.zip xs).map (·.1) = is_ := List.map_fst_zip (by omega); have h2 : (is_.zip xs).map (·.2) = xs := List.map_snd_zip (by omega); exact runs_build (vs := is_.zip xs) (by rw [h2]; exact hv) (by rw [h1]; exact hi) (hz.built hb)
theorem allOne {vs : List Value} (h : vs.all Value.oneCell' = true) : ∀ v ∈ vs, v.oneCell' = true := fun v hv => List.all_eq_true.1 h v hv
theorem runs_storeW {x y : Operand} {S : TypeId} {z : Value} {n bytes : Nat} {k b : Nat} {cs : Array Value} {T : TypeId} {fz : Nat × Nat} {vs : List Value} (ht : TI P S z n bytes) (hx : ev l x = some (.pointer (some ⟨b, 0, none⟩))) (hy : ev l y = some (.agg vs.toArray)) (hst : St w0 w I L)
    (hL : L[k]? = some (b, .cells cs T fz)) (hn : vs.length = n) (hsz : cs.size = n) (hfz : NoFz cs.size fz) (hv : vs.all Value.oneCell' = true) :
    ∃ w', Runs P (.store S x y) ty l w .skip w' ∧ St w0 w' I (L.set k (b, .cells vs.toArray T fz)) := by
  subst hn; obtain ⟨w', h1, h2⟩ := runs_storeA (ty := ty) ht hx hy hst hL (by omega) hfz (allOne hv); refine ⟨w', h1, ?_⟩
  have e : cs.toList.take 0 ++ vs ++ cs.toList.drop (0 + vs.length) = vs := by
    rw [List.drop_eq_nil_of_le (by simp; omega)]; simp
  rw [e] at h2; exact h2
theorem runs_storeP {x y : Operand} {S : TypeId} {z : Value} {n bytes : Nat} {k b off : Nat} {cs : Array Value} {T : TypeId} {fz : Nat × Nat} {vs : List Value} (ht : TI P S z n bytes) (hx : ev l x = some (.pointer (some ⟨b, off, none⟩))) (hy : ev l y = some (.agg vs.toArray)) (hst : St w0 w I L)
    (hL : L[k]? = some (b, .cells cs T fz)) (hn : vs.length = n) (hoff : Nat.ble (off + n) cs.size = true) (hfz : NoFz cs.size fz) (hv : vs.all Value.oneCell' = true) :
    ∃ w', Runs P (.store S x y) ty l w .skip w' ∧ St w0 w' I (L.set k (b, .cells (cs.toList.take off ++ vs ++ cs.toList.drop (off + vs.length)).toArray T fz)) := by
  subst hn; exact runs_storeA ht hx hy hst hL (by simpa using hoff) hfz (allOne hv)
theorem runs_store1P {x y : Operand} {S : TypeId} {z : Value} {bytes : Nat} {k b off : Nat} {cs : Array Value} {T : TypeId} {fz : Nat × Nat} {v : Value} (ht : TI P S z 1 bytes) (hx : ev l x = some (.pointer (some ⟨b, off, none⟩))) (hy : ev l y = some v) (hst : St w0 w I L)
    (hL : L[k]? = some (b, .cells cs T fz)) (hoff : Nat.blt off cs.size = true) (hfz : NoFz cs.size fz) (hv : v.oneCell' = true) :
    ∃ w', Runs P (.store S x y) ty l w .skip w' ∧ St w0 w' I (L.set k (b, .cells (cs.setIfInBounds off v) T fz)) := runs_store1 ht hx hy hst hL (by simpa [Nat.blt_eq] using hoff) hfz hv
theorem runs_loadN {x : Operand} {S : TypeId} {z : Value} {n bytes : Nat} {k b off : Nat} {cs : Array Value} {T : TypeId} {fz : Nat × Nat} {vs : List Value} (hT : isAggT P S = true) (ht : TI P S z n bytes) (h : ev l x = some (.pointer (some ⟨b, off, none⟩))) (hst : St w0 w I L)
    (hL : L[k]? = some (b, .cells cs T fz)) (hv : (cs.toList.drop off).take n = vs) (hn : vs.length = n) : Runs P (.load S x) ty l w (.value (.agg vs.toArray)) w := by
  subst hv; exact runs_loadO hT ht h hst hL hn
theorem FSt.loadN {x : Operand} {S : TypeId} {z : Value} {n bytes : Nat} {k b off : Nat} {cs : Array Value} {T : TypeId} {fz : Nat × Nat} {vs : List Value} (hT : isAggT P S = true) (ht : TI P S z n bytes) (h : ev l x = some (.pointer (some ⟨b, off, none⟩)))
    (hL : L[k]? = some (b, .cells cs T fz)) (hv : (cs.toList.drop off).take n = vs) (hn : vs.length = n) : ∀ w', FSt w0 I L w' → Runs P (.load S x) ty l w' (.value (.agg vs.toArray)) w' := by
  subst hv; exact FSt.loadO hT ht h hL hn
theorem St.loadN (hst : St w0 w I L) {S : TypeId} {z : Value} {n bytes : Nat} {k b off : Nat} {cs : Array Value} {T : TypeId} {fz : Nat × Nat} {vs : List Value} (hT : isAggT P S = true) (ht : TI P S z n bytes)
    (hL : L[k]? = some (b, .cells cs T fz)) (hv : (cs.toList.drop off).take n = vs) (hn : vs.length = n) : (loadVar S ⟨b, off, none⟩).run P w = .ok (.agg vs.toArray) w := by
  subst hv; exact hst.loadO hT ht hL hn
end Go.Proofs.YtadgbifmiooikaaX
namespace Go.Proofs.YtadgbifmiooikaaX
set_option linter.unusedVariables false
set_option linter.unusedSimpArgs false
open Go Go.RowKit
variable {w0 w : World} {I : Imm} {L : Own} {P : Program} {l : Env} {ty : TypeId} {N : Nat}
def isI64 (P : Program) (t : TypeId) : Bool := match P.underlying t with
  | some (.int .i64) => true
  | _ => false
theorem isI64_of {t : TypeId} (h : isI64 P t = true) : P.underlying t = some (.int .i64) := by
  unfold isI64 at h
  split at h
  · assumption
  · cases h
def EZ (P : Program) (t : TypeId) (n : Nat) : Bool := match P.underlying t with
  | some (.struct fs) => !(P.stoodInHeld t) && !(P.eqGuardType P.depth t) && fs.toList.length == n && fs.toList.zipIdx.all fun (f, i) => f.name != "_" && f.offset == i && isI64 P f.type
  | _ => false
theorem run_partZ {t : TypeId} {cs : Array Value} {off : Nat} {v : Value} (ht : P.underlying t = some (.int .i64)) (h : cs[off]? = some v) : (part t cs off).run P w = .ok v w := by
  unfold part
  simp only [Sem.run_bind]
  have h1 : (isAgg t).run P w = .ok false w := by unfold isAgg; simp [Sem.run_bind, run_underlying ht, Result.andThen]
  rw [h1]
  simp only [Result.andThen, Bool.false_eq_true, if_false, h]
  rfl
theorem run_eqFieldsZ {d : Nat} : ∀ (fs : List Field) (k : Nat) (xs ys : List Int), (∀ p ∈ fs.zipIdx k, (p.1.name != "_" && p.1.offset == p.2 && isI64 P p.1.type) = true) → xs.length = k + fs.length → ys.length = k + fs.length →
    (Op.eqFields (d + 1) (xs.map fun n => Value.int .i64 n).toArray (ys.map fun n => Value.int .i64 n).toArray fs).run P w = .ok (decide (xs.drop k = ys.drop k)) w
  | [], k, xs, ys, _, h1, h2 => by
    have e1 : xs.drop k = [] := List.drop_eq_nil_of_le (by simp at h1; omega); have e2 : ys.drop k = [] := List.drop_eq_nil_of_le (by simp at h2; omega); rw [e1, e2]
    simp [Op.eqFields]
  | f :: fs, k, xs, ys, h, h1, h2 => by
    have h0 := h (f, k) (by simp [List.zipIdx_cons])
    simp only [Bool.and_eq_true, bne_iff_ne, ne_eq, beq_iff_eq] at h0
    obtain ⟨⟨hn, ho⟩, ht'⟩ := h0; have ht := isI64_of ht'
    simp only [List.length_cons] at h1 h2
    have hx : k < xs.length := by omega
    have hy : k < ys.length := by omega
    have ih := run_eqFieldsZ (d := d) fs (k + 1) xs ys (fun p hp => h p (by rw [List.zipIdx_cons]; exact List.mem_cons_of_mem _ hp)) (by omega) (by omega); have ha : (part f.type (xs.map fun n => Value.int .i64 n).toArray f.offset).run P w = .ok (.int .i64 xs[k]) w := run_partZ ht (by rw [ho]; simp [hx]); have hb : (part f.type (ys.map fun n => Value.int .i64 n).toArray f.offset).run P w = .ok (.int .i64 ys[k]) w := run_partZ ht (by rw [ho]; simp [hy]); rw [Op.eqFields]
    simp only [if_pos hn, Sem.run_bind, ha, hb, run_equalIn_int w d f.type .i64 .i64 _ _ ht, Result.andThen_ok]
    have e0 : (xs.drop k = ys.drop k) ↔ (xs[k] = ys[k] ∧ xs.drop (k + 1) = ys.drop (k + 1)) := by
      rw [List.drop_eq_getElem_cons hx, List.drop_eq_getElem_cons hy, List.cons.injEq]
    simp only [e0]
    by_cases he : xs[k] = ys[k]
    · simp only [he, beq_self_eq_true, if_true, true_and]
      exact ih
    · simp [he]
theorem run_eqZ {op : BinOp} {t t' : TypeId} {x y : Operand} {xs ys : List Int} {n : Nat} (ht : EZ P t n = true) (h1 : xs.length = n) (h2 : ys.length = n) :
    (Op.equalIn 10000 t (.agg (xs.map fun n => Value.int .i64 n).toArray) (.agg (ys.map fun n => Value.int .i64 n).toArray)).run P w = .ok (decide (xs = ys)) w ∧ P.eqGuardType P.depth t = false := by
  unfold EZ at ht
  cases hu : P.underlying t with
  | none => simp [hu] at ht
  | some d => cases d <;> simp only [hu] at ht <;> try (exact absurd ht (by decide))
              rename_i fs
              simp only [Bool.and_eq_true, Bool.not_eq_true', beq_iff_eq, List.all_eq_true] at ht
              obtain ⟨⟨⟨hp, hg⟩, hl⟩, hall⟩ := ht
              have hf : P.fieldsOf t = fs := by simp [Program.fieldsOf, hu]
              refine ⟨?_, hg⟩; rw [show (10000 : Nat) = 9999 + 1 from rfl, run_equalIn_struct (P := P) w 9999 t _ _ (by rw [hf]; exact hu) hp, hf]; have := run_eqFieldsZ (P := P) (w := w) (d := 9998) fs.toList 0 xs ys (fun p hp => by have := hall p hp; simpa using this) (by omega) (by omega)
              simpa using this
theorem runs_neZ {t t' : TypeId} {x y : Operand} {xs ys : List Int} {n : Nat} {us vs : Array Value} (ht : EZ P t n = true) (hx : ev l x = some (.agg us)) (hy : ev l y = some (.agg vs)) (hu : us = (xs.map fun n => Value.int .i64 n).toArray) (hv : vs = (ys.map fun n => Value.int .i64 n).toArray) (h1 : xs.length = n := by rfl) (h2 : ys.length = n := by rfl) :
    Runs P (.binOp .neq t x y t') ty l w (.value (.bool (!decide (xs = ys)))) w :=
  .of (fun ρ => do eqGuard .neq t x y (ρ x) (ρ y); binOp .neq t (ρ x) (ρ y)) (fun _ _ _ _ _ => rfl) fun ρ hρ => by
    subst hu hv; obtain ⟨h3, h4⟩ := run_eqZ (P := P) (w := w) (op := .neq) (t' := t') (x := x) (y := y) ht h1 h2
    simp only [hρ x _ hx, hρ y _ hy, Sem.run_bind, run_eqGuard_agg w .neq t x y _ _ h4, Result.andThen_ok, run_neq_struct, h3]
def RdR (I : Imm) (v : Value) (vs : List Value) (bss : List (List UInt8)) : Prop := RdL I 1 v vs.length vs ∧ vs.length = bss.length ∧ ∀ (i : Nat) (u : Value) (b : List UInt8), vs[i]? = some u → bss[i]? = some b → RdB I u b
theorem St.start (w : World) : St w w (fun b => w.heap[b]?) [] := ⟨rfl, rfl, rfl, fun _ _ h => h, fun p hp => absurd hp (List.not_mem_nil), fun p hp => absurd hp (List.not_mem_nil), List.nodup_nil⟩
theorem St.below {w w' : World} {I' : Imm} {L : Own} (h : St w w' I' L) (hI : Imm.le (fun b => w.heap[b]?) I') : Below w.heap.size w w' := by
  have hb : ∀ k, k < w.heap.size → w'.heap[k]? = w.heap[k]? := fun k hk => by
    have h1 : w.heap[k]? = some w.heap[k] := Array.getElem?_eq_getElem hk; rw [h1]; exact h.imm k _ (hI k _ h1)
  refine ⟨h.os, h.tape, h.out, ?_, hb⟩
  rcases Nat.lt_or_ge w'.heap.size w.heap.size with hlt | hge
  · have h1 := hb w'.heap.size hlt; rw [Array.getElem?_eq_none (Nat.le_refl _), Array.getElem?_eq_getElem hlt] at h1
    cases h1
  · exact hge
theorem wf_i64 {n : Int} (h : (Lit.int .i64 n).wf = true) : -9223372036854775808 ≤ n ∧ n ≤ 9223372036854775807 := by
  simp only [Lit.wf, Bool.and_eq_true, decide_eq_true_eq] at h
  exact h
theorem wf_u8 {n : Int} (h : (Lit.int .u8 n).wf = true) : 0 ≤ n ∧ n ≤ 255 := by
  simp only [Lit.wf, Bool.and_eq_true, decide_eq_true_eq] at h
  exact h
theorem b8_u8 {n : Int} (h : 0 ≤ n ∧ n ≤ 255) : b8 (u8 n) = .int .u8 n := by
  unfold b8; rw [u8_toNat]
  congr 1
  omega
theorem RdL.of_row {k : IntKind} {w : World} {a : Option Addr} {len cap : Nat} {zs : List Int} (h : (a = none ∧ len = 0 ∧ cap = 0 ∧ zs = []) ∨
    ∃ x, a = some x ∧ len ≤ cap ∧ cap ≤ Go.maxLen ∧ zs.length = cap ∧ (∀ i, i < zs.length → w.cell? (x.add i) = some (.int k (zs.getD i 0))) ∧ ∀ n ∈ zs, (Lit.int k n).wf = true) :
    RdL (fun b => w.heap[b]?) 1 (.slice a len cap) len ((zs.take len).map fun n => .int k n) ∧ (zs.take len).length = len ∧ len ≤ 9223372036854775807 := by
  rcases h with ⟨rfl, rfl, rfl, rfl⟩ | ⟨x, rfl, h1, h2, h3, h4, h5⟩
  · exact ⟨RdL.nil 1, rfl, by decide⟩
  · have hl : (zs.take len).length = len := by rw [List.length_take]; omega
    refine ⟨⟨by rw [List.length_map, hl, Nat.mul_one], fun u hu => ?_, some x, cap, rfl, h1, fun j u hj => ⟨x, rfl, ?_⟩⟩, hl, by unfold Go.maxLen at h2; omega⟩
    · obtain ⟨n, _, rfl⟩ := List.mem_map.1 hu; rfl
    · rw [List.getElem?_map] at hj
      cases hz : (zs.take len)[j]? with
      | none => rw [hz] at hj; cases hj
      | some n =>
        rw [hz] at hj; have hjl := (List.getElem?_eq_some_iff.1 hz).1
        have hj2 : j < zs.length := by omega
        have e : zs.getD j 0 = n := by
          rw [List.getElem?_take_of_lt (by omega)] at hz
          simp [List.getD_eq_getElem?_getD, hz]
        have h6 := h4 j hj2; rw [e] at h6
        cases hj
        exact h6
theorem RdB.of_row {w : World} {a : Option Addr} {len cap : Nat} {zs : List Int} (h : (a = none ∧ len = 0 ∧ cap = 0 ∧ zs = []) ∨
    ∃ x, a = some x ∧ len ≤ cap ∧ cap ≤ Go.maxLen ∧ zs.length = cap ∧ (∀ i, i < zs.length → w.cell? (x.add i) = some (.int .u8 (zs.getD i 0))) ∧ ∀ n ∈ zs, (Lit.int .u8 n).wf = true) :
    ∃ bs, RdB (fun b => w.heap[b]?) (.slice a len cap) bs ∧ bs.length ≤ 9223372036854775807 := by
  have hw : ∀ n ∈ zs, 0 ≤ n ∧ n ≤ 255 := by
    rcases h with ⟨_, _, _, rfl⟩ | ⟨_, _, _, _, _, _, h⟩
    · simp
    · exact fun n hn => wf_u8 (h n hn)
  obtain ⟨h1, h2, h3⟩ := RdL.of_row h; refine ⟨(zs.take len).map u8, ?_, by rw [List.length_map, h2]; exact h3⟩; unfold RdB; rw [List.length_map, h2, List.map_map]
  have e : (zs.take len).map (b8 ∘ u8) = (zs.take len).map fun n => Value.int .u8 n := List.map_congr_left fun n hn => b8_u8 (hw n (List.mem_of_mem_take hn))
  rw [e]; exact h1
theorem RdI.of_row {w : World} {a : Option Addr} {len cap : Nat} {zs : List Int} (h : (a = none ∧ len = 0 ∧ cap = 0 ∧ zs = []) ∨
    ∃ x, a = some x ∧ len ≤ cap ∧ cap ≤ Go.maxLen ∧ zs.length = cap ∧ (∀ i, i < zs.length → w.cell? (x.add i) = some (.int .i64 (zs.getD i 0))) ∧ ∀ n ∈ zs, (Lit.int .i64 n).wf = true) :
    ∃ xs, RdI (fun b => w.heap[b]?) (.slice a len cap) xs ∧ xs.length ≤ 9223372036854775807 ∧ ∀ n ∈ xs, -9223372036854775808 ≤ n ∧ n ≤ 9223372036854775807 := by
  have hw : ∀ n ∈ zs, -9223372036854775808 ≤ n ∧ n ≤ 9223372036854775807 := by
    rcases h with ⟨_, _, _, rfl⟩ | ⟨_, _, _, _, _, _, h⟩
    · simp
    · exact fun n hn => wf_i64 (h n hn)
  obtain ⟨h1, h2, h3⟩ := RdL.of_row h; refine ⟨zs.take len, ?_, by rw [h2]; exact h3, fun n hn => hw n (List.mem_of_mem_take hn)⟩; unfold RdI; rw [h2]; exact h1
end Go.Proofs.YtadgbifmiooikaaX
namespace Go.Proofs.YtadgbifmiooikaaX
set_option linter.unusedVariables false
set_option linter.unusedSimpArgs false
open Go Go.RowKit
variable {w0 w : World} {I : Imm} {L : Own} {P : Program} {l : Env} {ty : TypeId} {N : Nat}
def Imm.del (I : Imm) (b : Nat) : Imm := fun k => if k = b then none else I k
theorem Grow.slice_h {t e e' : TypeId} {x y' : Operand} {v : Value} {n : Nat} {xs : List Value} {Lv : Own} {k' : IntKind} {hi : Int} {z : Value} {size bytes : Nat} (ht : P.underlying t = some (.slice e)) (he : TI P e z size bytes) (hx : ev l x = some v)
    (hy' : ev l y' = some (.int k' hi)) (hg : Grow e' size v n xs Lv) (h : 0 ≤ hi ∧ hi ≤ n) : Runs P (.slice t x none (some y') none) ty l w (.value (Go.Proofs.YtadgbifmiooikaaX.partV v 0 hi.toNat size)) w := by
  obtain ⟨_, _, ⟨rfl, rfl, _⟩ | ⟨g, cap, cur, rfl, _, h3, _⟩⟩ := hg
  · exact runs_slice_h ht he hx hy' (by omega)
  · exact runs_slice_h ht he hx hy' (by omega)
theorem Grow.take {e : TypeId} {size n : Nat} {v : Value} {xs : List Value} {Lv : Own} (hg : Grow e size v n xs Lv) {hi : Nat} (h : hi ≤ n) : Grow e size (Go.Proofs.YtadgbifmiooikaaX.partV v 0 hi size) hi (xs.take (hi * size)) Lv := by
  obtain ⟨h1, h2, ⟨rfl, rfl, rfl⟩ | ⟨g, cap, cur, rfl, rfl, h3, h4, h5, h6⟩⟩ := hg
  · have : hi = 0 := by omega
    subst this; have hx : xs = [] := List.eq_nil_of_length_eq_zero (by simpa using h1); subst hx; exact ⟨by simp, by simp, .inl ⟨by simp [Go.Proofs.YtadgbifmiooikaaX.partV, sliced], rfl, rfl⟩⟩
  · have hle : hi * size ≤ n * size := Nat.mul_le_mul_right _ h; refine ⟨by rw [List.length_take, h1]; omega, fun u hu => h2 u (List.mem_of_mem_take hu), .inr ⟨g, cap, cur, ?_, rfl, by omega, h4, h5, ?_⟩⟩
    · unfold Go.Proofs.YtadgbifmiooikaaX.partV sliced
      simp only [Nat.zero_mul, Nat.sub_zero, Option.map_some, add_lit, Nat.add_zero, ite_self]
    · rw [← h6, List.take_take, Nat.min_eq_left hle]
theorem GrowB.take {e : TypeId} {v : Value} {bs : List UInt8} {Lv : Own} (hg : GrowB e v bs Lv) {hi : Nat} (h : hi ≤ bs.length) : GrowB e (Go.Proofs.YtadgbifmiooikaaX.partV v 0 hi 1) (bs.take hi) Lv := by
  have := Grow.take hg h; rw [Nat.mul_one] at this; unfold GrowB; rw [List.map_take, show (bs.take hi).length = hi by rw [List.length_take]; omega]; exact this
theorem RdL.one {size n : Nat} {v : Value} {xs : List Value} (h : RdL I size v n xs) : v.oneCell' = true := by
  obtain ⟨_, _, A, cap, rfl, _⟩ := h
  rfl
theorem RdR.at {v : Value} {vs : List Value} {bss : List (List UInt8)} {i : Int} (h : RdR I v vs bss) (h0 : 0 ≤ i) (h1 : i < vs.length) : I.cell? (slPtr v (i.toNat * 1)) = some (vs.getD i.toNat (.slice none 0 0)) := by
  refine RdL.cell h.1 ?_
  have : i.toNat < vs.length := by omega
  simp [this]
theorem RdR.row {v : Value} {vs : List Value} {bss : List (List UInt8)} (h : RdR I v vs bss) {i : Nat} (h1 : i < vs.length) : RdB I (vs.getD i (.slice none 0 0)) (bss.getD i []) := by
  have h2 : i < bss.length := by rw [← h.2.1]; exact h1
  exact h.2.2 i _ _ (by simp [h1]) (by simp [h2])
theorem RdR.mono {I' : Imm} {v : Value} {vs : List Value} {bss : List (List UInt8)} (h : RdR I v vs bss) (hI : I.le I') : RdR I' v vs bss :=
  ⟨RdL.mono hI h.1, h.2.1, fun i u b h1 h2 => RdL.mono hI (h.2.2 i u b h1 h2)⟩
theorem bfill_range (size : Nat) : ∀ (xs : List Value) (k : Nat) (pre post : List Value), pre.length = k * size → post.length = xs.length * size → (∀ x ∈ xs, (vcells x).length = size) →
    bfill (fun i => some (i * size, size)) (pre ++ post) ((List.range' k xs.length).zip xs) = some (pre ++ xs.flatMap vcells)
  | [], k, pre, post, h1, h2, h3 => by
    have : post = [] := List.eq_nil_of_length_eq_zero (by simpa using h2); subst this
    simp [bfill]
  | x :: r, k, pre, post, h1, h2, h3 => by
    simp only [List.length_cons, Nat.add_mul, Nat.one_mul] at h2
    have hx := h3 x (List.mem_cons_self ..); rw [List.length_cons, List.range'_succ, List.zip_cons_cons]; unfold bfill
    simp only []
    rw [if_pos ⟨hx, by rw [List.length_append]; omega⟩]
    have e1 : (pre ++ post).take (k * size) = pre := by rw [← h1, List.take_left]
    have e2 : (pre ++ post).drop (k * size + size) = post.drop size := by
      rw [List.drop_append, List.drop_eq_nil_of_le (by omega), List.nil_append, h1]
      congr 1; omega
    rw [e1, e2, bfill_range size r (k + 1) (pre ++ vcells x) (post.drop size) (by rw [List.length_append, hx, h1, Nat.add_mul, Nat.one_mul]) (by rw [List.length_drop]; omega) (fun y hy => h3 y (List.mem_cons_of_mem _ hy))]
    simp
theorem runs_litF {t e : TypeId} {z : Value} {size bytes n : Nat} {parts : List (Nat × Operand)} {xs : List Value} (ht : P.underlying t = some (.slice e)) (he : TI P e z size bytes) (hn : n * size ≤ 16777216) (hv : evs l (parts.map (·.2)) = some xs) (hi : parts.map (·.1) = List.range n) (hlen : xs.length = n)
    (hsz : xs.all (fun x => (vcells x).length == size) = true) (hone : (xs.flatMap vcells).all Value.oneCell' = true) (hst : St w0 w I L) (hmax : n ≤ maxLen) :
    ∃ v w', Runs P (.buildSlice t n parts.toArray) ty l w (.value v) w' ∧ ∃ Lv, St w0 w' I (Lv ++ L) ∧ Grow e size v n (xs.flatMap vcells) Lv := by
  have hsz' : ∀ x ∈ xs, (vcells x).length = size := fun x hx => by simpa using List.all_eq_true.1 hsz x hx
  have hvs : ((List.range n).zip xs).map (·.2) = xs := List.map_snd_zip (by simp [hlen]); have his : ((List.range n).zip xs).map (·.1) = List.range n := List.map_fst_zip (by simp [hlen])
  have hcl : (xs.flatMap vcells).length = n * size := by
    rw [← hlen]; clear hv hi hlen hsz hone hvs his
    induction xs with
    | nil => simp
    | cons x r ih =>
      rw [List.flatMap_cons, List.length_append, hsz' x (List.mem_cons_self ..), ih (fun y hy => hsz' y (List.mem_cons_of_mem _ hy)), List.length_cons, Nat.add_mul, Nat.one_mul, Nat.add_comm]
  refine runs_buildSlice (vs := (List.range n).zip xs) ht he hn (by rw [hvs]; exact hv) (by rw [his]; exact hi) ?_ hst hcl (allOne hone) hmax; have h := bfill_range size xs 0 [] ((Array.range (n * size)).map ((if n * size = 0 then #[] else z.cells)[· % (if n * size = 0 then #[] else z.cells).size]!)).toList (by simp) (by simp [hlen]) hsz'; rw [List.nil_append, List.nil_append, ← List.range_eq_range', hlen] at h; have h2 := fill_of h; rw [Array.toArray_toList] at h2; exact h2
theorem getElem?_flat {α β : Type} {f : α → List β} {size : Nat} (hf : ∀ a, (f a).length = size) : ∀ (xs : List α) (k j : Nat), j < size → (xs.flatMap f)[k * size + j]? = xs[k]?.bind fun a => (f a)[j]?
  | [], k, j, _ => by simp
  | a :: r, 0, j, h => by
    rw [List.flatMap_cons, List.getElem?_append_left (by rw [hf]; omega)]
    simp
  | a :: r, k + 1, j, h => by
    rw [List.flatMap_cons, List.getElem?_append_right (by rw [hf, Nat.add_mul]; omega), hf, show (k + 1) * size + j - size = k * size + j by rw [Nat.add_mul]; omega, getElem?_flat hf r k j h]
    simp
theorem RdL.loadRow {x : Operand} {T : TypeId} {z : Value} {bytes n size i : Nat} {v : Value} {xs row : List Value} (hT : isAggT P T = true) (ht : TI P T z size bytes) (hx : ev l x = some (.pointer (some (slPtr v (i * size))))) (hr : RdL I size v n xs) (hst : St w0 w I L) (hlen : row.length = size)
    (hget : ∀ j u, row[j]? = some u → xs[i * size + j]? = some u) : Runs P (.load T x) ty l w (.value (.agg row.toArray)) w := by
  refine runs_loadA hT (by rw [hlen]; exact ht) hx fun j u hj => ?_
  have h1 := hst.cell_imm (hr.cell (hget j u hj)); obtain ⟨_, _, A, cap, rfl, _, h4⟩ := hr; obtain ⟨a, rfl, _⟩ := h4 _ u (hget j u hj)
  simp only [slPtr] at h1 ⊢
  rw [Addr.add_add]; exact h1
end Go.Proofs.YtadgbifmiooikaaX
namespace Go.Proofs.YtadgbifmiooikaaX
set_option linter.unusedVariables false
set_option linter.unusedSimpArgs false
open Go Go.RowKit Go.Lib
variable {w0 w : World} {I : Imm} {L : Own} {P : Program} {l : Env} {ty : TypeId} {N : Nat}
theorem runs_makeIface {t : TypeId} {x : Operand} {v : Value} (ht : P.concrete t = true) (hx : ev l x = some v) : Runs P (.makeInterface t x) ty l w (.value (.iface t v)) w :=
  .of (fun ρ => Instr.makeInterface t (ρ x)) (fun _ _ _ _ _ => rfl) fun ρ hρ => by
    rw [hρ x _ hx]; exact run_makeInterface w t v ht
def asV (a : TypeId) (z : Value) : Value → Value
  | .iface t u => if t = a then u else z
  | _ => z
def asB (a : TypeId) : Value → Bool
  | .iface t _ => t == a
  | _ => false
def assertOk (a : TypeId) (z v : Value) : Value := .tuple #[asV a z v, .bool (asB a v)]
def isIface : Value → Bool
  | .iface _ _ => true
  | .nilIface => true
  | _ => false
theorem runs_assertOk {t a : TypeId} {x : Operand} {v z : Value} {size bytes : Nat} (ha : P.concrete a = true) (hz : TI P a z size bytes) (hx : ev l x = some v) (hv : isIface v = true) : Runs P (.typeAssert x t a true) ty l w (.value (assertOk a z v)) w :=
  .of (fun ρ => Instr.typeAssert (ρ x) t a true) (fun _ _ _ _ _ => rfl) fun ρ hρ => by
    rw [hρ x _ hx]; unfold Program.concrete at ha; unfold Instr.typeAssert
    cases hu : P.underlying a with
    | none => simp [hu] at ha
    | some d =>
      cases d <;> simp only [hu, Bool.false_eq_true] at ha <;> cases v <;> simp only [isIface, Bool.false_eq_true] at hv <;>
        (simp only [Sem.run_bind, run_underlying hu, Result.andThen, if_true, hz.run_zero, assertOk, asV, asB]; first | rfl | (split <;> rename_i hta <;> simp [hta, hz.run_zero, Sem.run_bind, Result.andThen, Sem.run, pure]))
theorem strCells_b8 (s : ByteArray) : strCells s = s.toList.map b8 := by
  rw [ByteArray.toList_eq]
  rfl
theorem runs_appendS {t u e : TypeId} {x y : Operand} {v : Value} {s : ByteArray} {bs : List UInt8} {Lv : Own} (ht : P.underlying t = some (.slice e)) (he : TI P e (.int .u8 0) 1 1) (hu : P.underlying u = some .string) (hx : ev l x = some v) (hy : ev l y = some (.string s))
    (hst : St w0 w I (Lv ++ L)) (hg : GrowB e v bs Lv) (hb : bs.length + s.size ≤ 140737488355328) :
    ∃ v' w', Runs P (.call ⟨.builtin .append, #[x, y], #[t, u]⟩) ty l w (.value v') w' ∧ ∃ Lv', St w0 w' I (Lv' ++ L) ∧ GrowB e v' (bs ++ s.toList) Lv' := by
  have hbi : ∀ {v' w'}, (Builtin.append_ #[t, u] ty #[v, .string s]).run P w = .ok v' w' → Runs P (.call ⟨.builtin .append, #[x, y], #[t, u]⟩) ty l w (.value v') w' := fun {v' w'} h =>
    Runs.bi (args := [x, y]) (vs := [v, .string s]) (by simp [evs, hx, hy]) fun consts => by simp only [builtin, Sem.run_bind, h]; rfl
  obtain ⟨i, hi, hz, hs, hby⟩ := he.get
  have hsl : s.toList.length = s.size := by rw [ByteArray.toList_eq]; rfl
  have hlen : (bs ++ s.toList).length = bs.length + s.size := by rw [List.length_append, hsl]
  have hmap : (bs ++ s.toList).map b8 = bs.map b8 ++ strCells s := by rw [List.map_append, strCells_b8]
  have hmax : bs.length + s.size ≤ maxLen := by unfold maxLen; omega
  have mk : ∀ {v' : Value} {g cap : Nat} {cur : Array Value}, v' = .slice (some ⟨g, 0, none⟩) (bs.length + s.size) cap → bs.length + s.size ≤ cap → cap ≤ maxLen → cur.size = cap * 1 → cur.toList.take ((bs.length + s.size) * 1) = bs.map b8 ++ strCells s → GrowB e v' (bs ++ s.toList) [(g, .cells cur e)] := by
    intro v' g cap cur h1 h2 h3 h4 h5; have hone := b8_one (bs ++ s.toList); unfold GrowB; rw [hlen]; rw [hmap] at hone ⊢; exact ⟨by rw [List.length_append, strCells_length]; simp, hone, .inr ⟨g, cap, cur, h1, rfl, h2, h3, h4, h5⟩⟩
  obtain ⟨hxl, hxo, ⟨rfl, hb0, rfl⟩ | ⟨g, cap, cur, rfl, rfl, h3, h4, h5, h6⟩⟩ := hg
  · have hbs : bs = [] := List.eq_nil_of_length_eq_zero hb0; subst hbs; obtain ⟨v', w', h7, h8, h9, h10⟩ := run_append_own_string (P := P) w w.heap.size t u ty e i ht hu hi hz hs hby (.slice none 0 0) 0 [] ⟨by simp, .inl ⟨rfl, rfl⟩⟩ s (by simpa using hmax) (by simpa using hb) (Nat.le_refl _); obtain ⟨h11, ⟨e1, e2⟩ | ⟨g, cap, cur, rfl, hge, hheap, h12, h13, h14, h15⟩⟩ := h8
    · have : s.toList = [] := List.eq_nil_of_length_eq_zero (by omega); refine ⟨v', w', hbi h7, [], ?_, ?_⟩
      · exact hst.grown_none h9
      · rw [this, e1]; exact GrowB.nil e
    · exact ⟨_, w', hbi h7, _, hst.cons_new h9 hge hheap, mk (by simp) (by simpa using h12) h13 h14 (by simpa using h15)⟩
  · have hcs : cur.size = cap := by simpa using h5
    have htk : cur.toList.take bs.length = bs.map b8 := by simpa using h6
    have hmem : (g, Obj.cells cur e) ∈ ([(g, .cells cur e)] ++ L : Own) := by simp
    have hheap := hst.own _ hmem
    by_cases hroom : bs.length + s.size ≤ cap
    · have hr := run_append_room_string (P := P) (ty := ty) w t u e i ht hu hi hs g bs.length cap cur hheap s hroom (by omega); refine ⟨_, _, hbi hr, [(g, .cells (cur.toList.take bs.length ++ strCells s ++ cur.toList.drop (bs.length + s.size)).toArray e)], ?_, mk rfl hroom h4 ?_ ?_⟩
      · have := hst.put (k := 0) (b := g) (o := .cells cur e) (o' := .cells (cur.toList.take bs.length ++ strCells s ++ cur.toList.drop (bs.length + s.size)).toArray e) (w' := w.setRow g (cur.toList.take bs.length ++ strCells s ++ cur.toList.drop (bs.length + s.size)).toArray) rfl rfl rfl rfl (setRow_heap w g cur _ e _ hheap) (fun j hj hlt => setRow_other w g j _ hj)
        simpa using this
      · simp only [List.size_toArray, List.length_append, List.length_take, List.length_drop, Array.length_toList, strCells_length]
        omega
      · rw [htk]
        have : (bs.map b8 ++ strCells s).length = (bs.length + s.size) * 1 := by rw [List.length_append, strCells_length]; simp
        rw [← this]; exact List.take_left
    · have hold : ∀ j v, (bs.map b8)[j]? = some v → w.cell? ((⟨g, 0, none⟩ : Addr).add j) = some v := fun j v hj => by
        rw [add_lit, Nat.zero_add]; refine hst.cell_own (k := 0) rfl ?_; rw [← htk, List.getElem?_take] at hj
        split at hj
        · simpa using hj
        · cases hj
      have hfit := growslice_fits (show cap < bs.length + s.size by omega) (bytes := 1) (by omega); have hr := run_append_grow_string (P := P) (ty := ty) w t u e i (.int .u8 0) ht hu hi hz ⟨g, 0, none⟩ bs.length cap (bs.map b8) (by rw [hs]; simp) hold s (by omega) (by omega) (by rw [hby]; exact hfit); refine ⟨_, _, hbi hr, _, ((hst.sub (by simp)).drewN).heap_new _, mk rfl (grownCap_ge w _ cap e) (grownCap_le_maxLen w _ cap e hmax) ?_ ?_⟩
      · rw [zeroCells_b8]; have := grownCap_ge w (bs.length + s.size) cap e
        simp [strCells_length]
        omega
      · have : (bs.map b8 ++ strCells s).length = (bs.length + s.size) * 1 := by rw [List.length_append, strCells_length]; simp
        simp only [Array.toList_append, List.append_assoc]
        rw [← List.append_assoc, ← this]; exact List.take_left
def RdAll (I : Imm) : List Value → List (List UInt8) → Prop
  | [], [] => True
  | v :: vs, b :: bs => RdB I v b ∧ RdAll I vs bs
  | _, _ => False
theorem RdAll.get {I : Imm} : ∀ {vs : List Value} {bss : List (List UInt8)}, RdAll I vs bss → vs.length = bss.length ∧ ∀ (i : Nat) (u : Value) (b : List UInt8), vs[i]? = some u → bss[i]? = some b → RdB I u b
  | [], [], _ => ⟨rfl, fun i u b h => by simp at h⟩
  | [], _ :: _, h => h.elim
  | _ :: _, [], h => h.elim
  | v :: vs, c :: bs, h => by
    obtain ⟨h1, h2⟩ := RdAll.get h.2; refine ⟨by simp [h1], fun i u b hu hb => ?_⟩
    cases i with
    | zero => cases hu; cases hb; exact h.1
    | succ i => exact h2 i u b (by simpa using hu) (by simpa using hb)
theorem RdAll.one {I : Imm} {vs : List Value} {bss : List (List UInt8)} (h : RdAll I vs bss) : ∀ u ∈ vs, u.oneCell' = true := fun u hu => by
  obtain ⟨i, hi, rfl⟩ := List.getElem_of_mem hu; obtain ⟨h1, h2⟩ := h.get; exact (h2 i vs[i] (bss[i]'(by omega)) (by simp [hi]) (by simp)).one
theorem RdR.of_all {I : Imm} {v : Value} {n : Nat} {vs : List Value} {bss : List (List UInt8)} (h : RdL I 1 v n vs) (hn : vs.length = n) (ha : RdAll I vs bss) : RdR I v vs bss := by
  subst hn; exact ⟨h, ha.get.1, ha.get.2⟩
theorem take_map_range {α : Type} (f : Nat → α) (n k : Nat) (h : k < n) : ((List.range n).map f).take (k + 1) = ((List.range n).map f).take k ++ [f k] := by
  rw [List.take_add_one]
  simp [h]
theorem size_toList (s : ByteArray) : s.toList.length = s.size := by rw [ByteArray.toList_eq]; rfl
end Go.Proofs.YtadgbifmiooikaaX
namespace Go.Proofs.YtadgbifmiooikaaX
open Go Go.Proofs
set_option maxRecDepth 100000
theorem follows : Try.prog.follows .mixedOrders = true := by kernel_rfl
theorem ti3 : TI Try.prog 3 (.int .i64 0) 1 8 := by unfold TI; kernel_rfl
theorem sc3 : isScalar Try.prog 3 = true := by kernel_rfl
theorem ti4 : TI Try.prog 4 (.bool false) 1 1 := by unfold TI; kernel_rfl
theorem sc4 : isScalar Try.prog 4 = true := by kernel_rfl
theorem ti5 : TI Try.prog 5 (.int .u8 0) 1 1 := by unfold TI; kernel_rfl
theorem sc5 : isScalar Try.prog 5 = true := by kernel_rfl
theorem ti9 : TI Try.prog 9 (.string .empty) 1 16 := by unfold TI; kernel_rfl
theorem sc9 : isScalar Try.prog 9 = true := by kernel_rfl
theorem ti20 : TI Try.prog 20 .nilIface 1 16 := by unfold TI; kernel_rfl
theorem sc20 : isScalar Try.prog 20 = true := by kernel_rfl
theorem ti23 : TI Try.prog 23 (.pointer none) 1 8 := by unfold TI; kernel_rfl
theorem sc23 : isScalar Try.prog 23 = true := by kernel_rfl
theorem ti25 : TI Try.prog 25 (.int .i64 0) 1 8 := by unfold TI; kernel_rfl
theorem sc25 : isScalar Try.prog 25 = true := by kernel_rfl
theorem ti31 : TI Try.prog 31 (.agg #[(.string .empty), (.string .empty)]) 2 32 := by unfold TI; kernel_rfl
theorem ag31 : isAggT Try.prog 31 = true := by kernel_rfl
theorem bz31 : BZ Try.prog 31 [(.string .empty), (.string .empty)] [(0, 1), (1, 1)] := by unfold BZ; kernel_rfl
theorem ti32 : TI Try.prog 32 (.slice none 0 0) 1 24 := by unfold TI; kernel_rfl
theorem sc32 : isScalar Try.prog 32 = true := by kernel_rfl
theorem ti34 : TI Try.prog 34 (.agg #[(.string .empty), (.string .empty), (.slice none 0 0), (.string .empty), (.int .i64 0), (.int .i64 0)]) 6 88 := by unfold TI; kernel_rfl
theorem ag34 : isAggT Try.prog 34 = true := by kernel_rfl
theorem bz34 : BZ Try.prog 34 [(.string .empty), (.string .empty), (.slice none 0 0), (.string .empty), (.int .i64 0), (.int .i64 0)] [(0, 1), (1, 1), (2, 1), (3, 1), (4, 1), (5, 1)] := by unfold BZ; kernel_rfl
theorem ti36 : TI Try.prog 36 (.agg #[(.string .empty), (.string .empty), (.int .i64 0)]) 3 40 := by unfold TI; kernel_rfl
theorem ag36 : isAggT Try.prog 36 = true := by kernel_rfl
theorem ti38 : TI Try.prog 38 (.agg #[(.int .i64 0), (.int .i64 0), (.int .i64 0), (.string .empty), (.string .empty), (.string .empty), (.slice none 0 0), (.string .empty), (.int .i64 0), (.int .i64 0), (.string .empty), (.string .empty), (.int .i64 0), (.string .empty), (.string .empty), (.string .empty), (.int .i64 0), (.int .i64 0), (.int .i64 0), (.bool false), (.string .empty), (.string .empty), (.int .i64 0), (.int .i64 0), (.bool false)]) 25 304 := by unfold TI; kernel_rfl
theorem ag38 : isAggT Try.prog 38 = true := by kernel_rfl
theorem bz38 : BZ Try.prog 38 [(.int .i64 0), (.int .i64 0), (.int .i64 0), (.string .empty), (.string .empty), (.string .empty), (.slice none 0 0), (.string .empty), (.int .i64 0), (.int .i64 0), (.string .empty), (.string .empty), (.int .i64 0), (.string .empty), (.string .empty), (.string .empty), (.int .i64 0), (.int .i64 0), (.int .i64 0), (.bool false), (.string .empty), (.string .empty), (.int .i64 0), (.int .i64 0), (.bool false)] [(0, 1), (1, 1), (2, 1), (3, 1), (4, 6), (10, 3), (13, 1), (14, 1), (15, 1), (16, 1), (17, 1), (18, 1), (19, 1), (20, 1), (21, 1), (22, 1), (23, 1), (24, 1)] := by unfold BZ; kernel_rfl
theorem ti47 : TI Try.prog 47 (.slice none 0 0) 1 24 := by unfold TI; kernel_rfl
theorem sc47 : isScalar Try.prog 47 = true := by kernel_rfl
theorem ti48 : TI Try.prog 48 (.slice none 0 0) 1 24 := by unfold TI; kernel_rfl
theorem sc48 : isScalar Try.prog 48 = true := by kernel_rfl
theorem bz50 : BZ Try.prog 50 [(.slice none 0 0), (.slice none 0 0), (.int .i64 0), (.bool false)] [(0, 1), (1, 1), (2, 1), (3, 1)] := by unfold BZ; kernel_rfl
theorem ti51 : TI Try.prog 51 (.pointer none) 1 8 := by unfold TI; kernel_rfl
theorem sc51 : isScalar Try.prog 51 = true := by kernel_rfl
theorem ti55 : TI Try.prog 55 (.pointer none) 1 8 := by unfold TI; kernel_rfl
theorem sc55 : isScalar Try.prog 55 = true := by kernel_rfl
theorem bz59 : BZ Try.prog 59 [(.pointer none), (.pointer none)] [(0, 1), (1, 1)] := by unfold BZ; kernel_rfl
theorem ti60 : TI Try.prog 60 (.slice none 0 0) 1 24 := by unfold TI; kernel_rfl
theorem sc60 : isScalar Try.prog 60 = true := by kernel_rfl
theorem ti69 : TI Try.prog 69 (.agg #[(.int .i64 0), (.int .i64 0), (.int .i64 0), (.int .i64 0), (.int .i64 0)]) 5 40 := by unfold TI; kernel_rfl
theorem ag69 : isAggT Try.prog 69 = true := by kernel_rfl
theorem bz69 : BZ Try.prog 69 [(.int .i64 0), (.int .i64 0), (.int .i64 0), (.int .i64 0), (.int .i64 0)] [(0, 1), (1, 1), (2, 1), (3, 1), (4, 1)] := by unfold BZ; kernel_rfl
theorem bz74 : BZ Try.prog 74 [(.pointer none), (.int .i64 0), (.int .i64 0), (.int .i64 0), (.int .i64 0), (.int .i64 0), (.int .i64 0), (.int .i64 0), (.int .i64 0)] [(0, 1), (1, 5), (6, 1), (7, 1), (8, 1)] := by unfold BZ; kernel_rfl
theorem ti77 : TI Try.prog 77 (.slice none 0 0) 1 24 := by unfold TI; kernel_rfl
theorem sc77 : isScalar Try.prog 77 = true := by kernel_rfl
theorem ti82 : TI Try.prog 82 (.map none) 1 8 := by unfold TI; kernel_rfl
theorem sc82 : isScalar Try.prog 82 = true := by kernel_rfl
theorem bz84 : BZ Try.prog 84 [(.map none), (.int .i64 0)] [(0, 1), (1, 1)] := by unfold BZ; kernel_rfl
theorem ti91 : TI Try.prog 91 (.agg #[(.int .u8 0), (.int .u8 0), (.int .u8 0), (.int .u8 0), (.int .u8 0), (.int .u8 0), (.int .u8 0), (.int .u8 0), (.int .u8 0), (.int .u8 0), (.int .u8 0), (.int .u8 0), (.int .u8 0), (.int .u8 0), (.int .u8 0), (.int .u8 0), (.int .u8 0), (.int .u8 0), (.int .u8 0), (.int .u8 0), (.int .u8 0), (.int .u8 0), (.int .u8 0), (.int .u8 0), (.int .u8 0), (.int .u8 0), (.int .u8 0), (.int .u8 0), (.int .u8 0), (.int .u8 0), (.int .u8 0), (.int .u8 0)]) 32 32 := by unfold TI; kernel_rfl
theorem ag91 : isAggT Try.prog 91 = true := by kernel_rfl
theorem ti93 : TI Try.prog 93 (.agg #[(.int .i64 0), (.int .u8 0), (.int .u8 0), (.int .u8 0), (.int .u8 0), (.int .u8 0), (.int .u8 0), (.int .u8 0), (.int .u8 0), (.int .u8 0), (.int .u8 0), (.int .u8 0), (.int .u8 0), (.int .u8 0), (.int .u8 0), (.int .u8 0), (.int .u8 0), (.int .u8 0), (.int .u8 0), (.int .u8 0), (.int .u8 0), (.int .u8 0), (.int .u8 0), (.int .u8 0), (.int .u8 0), (.int .u8 0), (.int .u8 0), (.int .u8 0), (.int .u8 0), (.int .u8 0), (.int .u8 0), (.int .u8 0), (.int .u8 0)]) 33 40 := by unfold TI; kernel_rfl
theorem ag93 : isAggT Try.prog 93 = true := by kernel_rfl
theorem bz93 : BZ Try.prog 93 [(.int .i64 0), (.int .u8 0), (.int .u8 0), (.int .u8 0), (.int .u8 0), (.int .u8 0), (.int .u8 0), (.int .u8 0), (.int .u8 0), (.int .u8 0), (.int .u8 0), (.int .u8 0), (.int .u8 0), (.int .u8 0), (.int .u8 0), (.int .u8 0), (.int .u8 0), (.int .u8 0), (.int .u8 0), (.int .u8 0), (.int .u8 0), (.int .u8 0), (.int .u8 0), (.int .u8 0), (.int .u8 0), (.int .u8 0), (.int .u8 0), (.int .u8 0), (.int .u8 0), (.int .u8 0), (.int .u8 0), (.int .u8 0), (.int .u8 0)] [(0, 1), (1, 32)] := by unfold BZ; kernel_rfl
theorem ti97 : TI Try.prog 97 (.agg #[(.int .i64 0), (.int .i64 0)]) 2 16 := by unfold TI; kernel_rfl
theorem ag97 : isAggT Try.prog 97 = true := by kernel_rfl
theorem ez97 : EZ Try.prog 97 2 = true := by kernel_rfl
theorem bz97 : BZ Try.prog 97 [(.int .i64 0), (.int .i64 0)] [(0, 1), (1, 1)] := by unfold BZ; kernel_rfl
theorem bz141 : BZ Try.prog 141 [(.slice none 0 0), (.int .i64 0), (.bool false)] [(0, 1), (1, 1), (2, 1)] := by unfold BZ; kernel_rfl
theorem con3 : Try.prog.concrete 3 = true := by kernel_rfl
theorem con4 : Try.prog.concrete 4 = true := by kernel_rfl
theorem con9 : Try.prog.concrete 9 = true := by kernel_rfl
theorem call4 : Callable Try.prog 4 := ⟨Try.f4, Try.func4, by kernel_rfl, by kernel_rfl⟩
theorem call5 : Callable Try.prog 5 := ⟨Try.f5, Try.func5, by kernel_rfl, by kernel_rfl⟩
theorem call6 : Callable Try.prog 6 := ⟨Try.f6, Try.func6, by kernel_rfl, by kernel_rfl⟩
theorem call7 : Callable Try.prog 7 := ⟨Try.f7, Try.func7, by kernel_rfl, by kernel_rfl⟩
theorem call8 : Callable Try.prog 8 := ⟨Try.f8, Try.func8, by kernel_rfl, by kernel_rfl⟩
theorem call9 : Callable Try.prog 9 := ⟨Try.f9, Try.func9, by kernel_rfl, by kernel_rfl⟩
theorem call10 : Callable Try.prog 10 := ⟨Try.f10, Try.func10, by kernel_rfl, by kernel_rfl⟩
theorem call11 : Callable Try.prog 11 := ⟨Try.f11, Try.func11, by kernel_rfl, by kernel_rfl⟩
theorem call12 : Callable Try.prog 12 := ⟨Try.f12, Try.func12, by kernel_rfl, by kernel_rfl⟩
theorem call13 : Callable Try.prog 13 := ⟨Try.f13, Try.func13, by kernel_rfl, by kernel_rfl⟩
theorem call14 : Callable Try.prog 14 := ⟨Try.f14, Try.func14, by kernel_rfl, by kernel_rfl⟩
theorem call15 : Callable Try.prog 15 := ⟨Try.f15, Try.func15, by kernel_rfl, by kernel_rfl⟩
theorem call16 : Callable Try.prog 16 := ⟨Try.f16, Try.func16, by kernel_rfl, by kernel_rfl⟩
theorem call17 : Callable Try.prog 17 := ⟨Try.f17, Try.func17, by kernel_rfl, by kernel_rfl⟩
theorem call18 : Callable Try.prog 18 := ⟨Try.f18, Try.func18, by kernel_rfl, by kernel_rfl⟩
theorem call19 : Callable Try.prog 19 := ⟨Try.f19, Try.func19, by kernel_rfl, by kernel_rfl⟩
theorem call20 : Callable Try.prog 20 := ⟨Try.f20, Try.func20, by kernel_rfl, by kernel_rfl⟩
theorem call21 : Callable Try.prog 21 := ⟨Try.f21, Try.func21, by kernel_rfl, by kernel_rfl⟩
theorem call22 : Callable Try.prog 22 := ⟨Try.f22, Try.func22, by kernel_rfl, by kernel_rfl⟩
theorem call23 : Callable Try.prog 23 := ⟨Try.f23, Try.func23, by kernel_rfl, by kernel_rfl⟩
theorem call24 : Callable Try.prog 24 := ⟨Try.f24, Try.func24, by kernel_rfl, by kernel_rfl⟩
theorem call25 : Callable Try.prog 25 := ⟨Try.f25, Try.func25, by kernel_rfl, by kernel_rfl⟩
theorem call26 : Callable Try.prog 26 := ⟨Try.f26, Try.func26, by kernel_rfl, by kernel_rfl⟩
theorem call27 : Callable Try.prog 27 := ⟨Try.f27, Try.func27, by kernel_rfl, by kernel_rfl⟩
theorem call28 : Callable Try.prog 28 := ⟨Try.f28, Try.func28, by kernel_rfl, by kernel_rfl⟩
theorem call29 : Callable Try.prog 29 := ⟨Try.f29, Try.func29, by kernel_rfl, by kernel_rfl⟩
theorem call30 : Callable Try.prog 30 := ⟨Try.f30, Try.func30, by kernel_rfl, by kernel_rfl⟩
theorem call31 : Callable Try.prog 31 := ⟨Try.f31, Try.func31, by kernel_rfl, by kernel_rfl⟩
theorem call32 : Callable Try.prog 32 := ⟨Try.f32, Try.func32, by kernel_rfl, by kernel_rfl⟩
theorem call33 : Callable Try.prog 33 := ⟨Try.f33, Try.func33, by kernel_rfl, by kernel_rfl⟩
theorem call34 : Callable Try.prog 34 := ⟨Try.f34, Try.func34, by kernel_rfl, by kernel_rfl⟩
theorem call35 : Callable Try.prog 35 := ⟨Try.f35, Try.func35, by kernel_rfl, by kernel_rfl⟩
theorem call36 : Callable Try.prog 36 := ⟨Try.f36, Try.func36, by kernel_rfl, by kernel_rfl⟩
theorem call37 : Callable Try.prog 37 := ⟨Try.f37, Try.func37, by kernel_rfl, by kernel_rfl⟩
theorem call38 : Callable Try.prog 38 := ⟨Try.f38, Try.func38, by kernel_rfl, by kernel_rfl⟩
theorem call39 : Callable Try.prog 39 := ⟨Try.f39, Try.func39, by kernel_rfl, by kernel_rfl⟩
theorem call40 : Callable Try.prog 40 := ⟨Try.f40, Try.func40, by kernel_rfl, by kernel_rfl⟩
theorem call41 : Callable Try.prog 41 := ⟨Try.f41, Try.func41, by kernel_rfl, by kernel_rfl⟩
theorem call42 : Callable Try.prog 42 := ⟨Try.f42, Try.func42, by kernel_rfl, by kernel_rfl⟩
theorem call43 : Callable Try.prog 43 := ⟨Try.f43, Try.func43, by kernel_rfl, by kernel_rfl⟩
theorem call44 : Callable Try.prog 44 := ⟨Try.f44, Try.func44, by kernel_rfl, by kernel_rfl⟩
theorem call45 : Callable Try.prog 45 := ⟨Try.f45, Try.func45, by kernel_rfl, by kernel_rfl⟩
theorem call46 : Callable Try.prog 46 := ⟨Try.f46, Try.func46, by kernel_rfl, by kernel_rfl⟩
theorem call47 : Callable Try.prog 47 := ⟨Try.f47, Try.func47, by kernel_rfl, by kernel_rfl⟩
theorem call48 : Callable Try.prog 48 := ⟨Try.f48, Try.func48, by kernel_rfl, by kernel_rfl⟩
theorem call49 : Callable Try.prog 49 := ⟨Try.f49, Try.func49, by kernel_rfl, by kernel_rfl⟩
theorem call50 : Callable Try.prog 50 := ⟨Try.f50, Try.func50, by kernel_rfl, by kernel_rfl⟩
theorem call51 : Callable Try.prog 51 := ⟨Try.f51, Try.func51, by kernel_rfl, by kernel_rfl⟩
theorem call52 : Callable Try.prog 52 := ⟨Try.f52, Try.func52, by kernel_rfl, by kernel_rfl⟩
theorem call53 : Callable Try.prog 53 := ⟨Try.f53, Try.func53, by kernel_rfl, by kernel_rfl⟩
theorem call54 : Callable Try.prog 54 := ⟨Try.f54, Try.func54, by kernel_rfl, by kernel_rfl⟩
theorem call55 : Callable Try.prog 55 := ⟨Try.f55, Try.func55, by kernel_rfl, by kernel_rfl⟩
theorem call56 : Callable Try.prog 56 := ⟨Try.f56, Try.func56, by kernel_rfl, by kernel_rfl⟩
theorem call60 : Callable Try.prog 60 := ⟨Try.f60, Try.func60, by kernel_rfl, by kernel_rfl⟩
theorem call61 : Callable Try.prog 61 := ⟨Try.f61, Try.func61, by kernel_rfl, by kernel_rfl⟩
theorem call62 : Callable Try.prog 62 := ⟨Try.f62, Try.func62, by kernel_rfl, by kernel_rfl⟩
theorem call63 : Callable Try.prog 63 := ⟨Try.f63, Try.func63, by kernel_rfl, by kernel_rfl⟩
theorem call64 : Callable Try.prog 64 := ⟨Try.f64, Try.func64, by kernel_rfl, by kernel_rfl⟩
theorem call65 : Callable Try.prog 65 := ⟨Try.f65, Try.func65, by kernel_rfl, by kernel_rfl⟩
theorem call66 : Callable Try.prog 66 := ⟨Try.f66, Try.func66, by kernel_rfl, by kernel_rfl⟩
theorem call67 : Callable Try.prog 67 := ⟨Try.f67, Try.func67, by kernel_rfl, by kernel_rfl⟩
theorem call68 : Callable Try.prog 68 := ⟨Try.f68, Try.func68, by kernel_rfl, by kernel_rfl⟩
theorem call69 : Callable Try.prog 69 := ⟨Try.f69, Try.func69, by kernel_rfl, by kernel_rfl⟩
theorem call70 : Callable Try.prog 70 := ⟨Try.f70, Try.func70, by kernel_rfl, by kernel_rfl⟩
theorem call71 : Callable Try.prog 71 := ⟨Try.f71, Try.func71, by kernel_rfl, by kernel_rfl⟩
theorem call75 : Callable Try.prog 75 := ⟨Try.f75, Try.func75, by kernel_rfl, by kernel_rfl⟩
theorem call76 : Callable Try.prog 76 := ⟨Try.f76, Try.func76, by kernel_rfl, by kernel_rfl⟩
theorem call77 : Callable Try.prog 77 := ⟨Try.f77, Try.func77, by kernel_rfl, by kernel_rfl⟩
theorem call89 : Callable Try.prog 89 := ⟨Try.f89, Try.func89, by kernel_rfl, by kernel_rfl⟩
theorem call90 : Callable Try.prog 90 := ⟨Try.f90, Try.func90, by kernel_rfl, by kernel_rfl⟩
theorem call91 : Callable Try.prog 91 := ⟨Try.f91, Try.func91, by kernel_rfl, by kernel_rfl⟩
theorem call92 : Callable Try.prog 92 := ⟨Try.f92, Try.func92, by kernel_rfl, by kernel_rfl⟩
theorem call99 : Callable Try.prog 99 := ⟨Try.f99, Try.func99, by kernel_rfl, by kernel_rfl⟩
end Go.Proofs.YtadgbifmiooikaaX
namespace Go.Proofs.YtadgbifmiooikaaX
set_option linter.unusedVariables false
set_option linter.unusedSimpArgs false
open Go Go.RowKit
variable {w0 w : World} {I : Imm} {L : Own} {P : Program} {l : Env} {ty : TypeId} {N : Nat}
def BA (P : Program) (t : TypeId) (zc : List Value) (size : Nat) : Prop :=
  (match P.info? t, P.underlying t with
   | some it, some (.array _ e) => (it.zero.map (·.cells.toList), (P.info? e).map (·.size))
   | _, _ => (none, none)) = (some zc, some size)
theorem BA.built {t : TypeId} {zc : List Value} {size : Nat} (h : BA P t zc size) {parts : List (Nat × Value)} {cells : List Value} (hf : bfill (fun i => some (i * size, size)) zc parts = some cells) : P.built t parts = some cells.toArray := by
  unfold BA at h; unfold Program.built
  cases hi : P.info? t with
  | none => simp [hi] at h
  | some it => cases hu : P.underlying t with
    | none => simp [hi, hu] at h
    | some d =>
      simp only [hi, hu] at h
      cases d <;> simp at h
      rename_i n e
      obtain ⟨⟨z, hz, hzc⟩, ie, he, hs⟩ := h
      simp only [hz, he, hs]
      have h1 := fill_of hf; rw [← hzc] at h1
      simpa using h1
def RdS (I : Imm) (v : Value) (xs : List ByteArray) : Prop := RdL I 1 v xs.length (xs.map Value.string)
def sat (xs : List ByteArray) (i : Int) : ByteArray := xs.getD i.toNat ⟨#[]⟩
theorem RdS.at {I : Imm} {v : Value} {xs : List ByteArray} {i : Int} (h : RdS I v xs) (h0 : 0 ≤ i) (h1 : i < xs.length) : I.cell? (slPtr v (i.toNat * 1)) = some (.string (sat xs i)) := by
  refine RdL.cell h ?_
  have hi : i.toNat < xs.length := by omega
  rw [Nat.mul_one, List.getElem?_map, List.getElem?_eq_getElem hi]; unfold sat
  simp [hi]
theorem RdS.mono {I I' : Imm} {v : Value} {xs : List ByteArray} (h : RdS I v xs) (hI : I.le I') : RdS I' v xs := RdL.mono hI h
end Go.Proofs.YtadgbifmiooikaaX
namespace Go.Proofs.YtadgbifmiooikaaX
set_option linter.unusedVariables false
set_option linter.unusedSimpArgs false
open Go Go.RowKit
variable {w0 w : World} {I : Imm} {L : Own} {P : Program} {l : Env} {ty : TypeId} {N : Nat}
theorem AQ.panicked {fn : Func} {R : Ending → World → Prop} {ch : List PanicEntry} (h : R (.panicked ch) w) : AQ N (bodyPost P fn R) (.panic ch) l w := fun a ha => ⟨ha.2.1, h⟩
def Env.onD (N : Nat) (D : List Deferred) (l : Env) (a : Act) : Prop := a.tmps.size = N ∧ a.defers = D ∧ ∀ t v, l.get t = some v → a.tmps.getD t undef = v
theorem ev_onD {D : List Deferred} {a : Act} (ha : l.onD N D a) {x : Operand} {v : Value} (h : ev l x = some v) : a.eval x = v :=
  ev_on (a := { a with defers := [] }) ⟨ha.1, rfl, ha.2.2⟩ h
theorem Env.onD_put {D : List Deferred} {d : Nat} {a : Act} {v : Value} (hd : Nat.blt d N = true) (ha : l.onD N D a) : Env.onD N D ((d, v) :: l) (a.put (some d) v) := by
  have h := Env.on_put (a := { a with defers := [] }) (v := v) hd ⟨ha.1, rfl, ha.2.2⟩; exact ⟨h.1, ha.2.1, h.2.2⟩
def RWD (P : Program) (N : Nat) (D : List Deferred) (ops : Array Oper) (Q : Exit → Act → World → Prop) (rest : List Oper) (l : Env) (w : World) : Prop := ∀ a, l.onD N D a → wpList P ops Q rest a w
def CWD (P : Program) (N : Nat) (D : List Deferred) (Q : Exit → Act → World → Prop) (c : Code) (l : Env) (w : World) : Prop := ∀ a, l.onD N D a → c.wp P Q a w
def AQD (N : Nat) (D : List Deferred) (Q : Exit → Act → World → Prop) (e : Exit) (l : Env) (w : World) : Prop := ∀ a, l.onD N D a → Q e a w
section
variable {D : List Deferred} {ops : Array Oper} {Q : Exit → Act → World → Prop} {rest : List Oper}
theorem CWD.seq {x y : Code} (h : CWD P N D (Exit.then (fun a w => y.wp P Q a w) Q) x l w) : CWD P N D Q (.seq x y) l w := fun a ha => wp_seq (h a ha)
theorem CWD.ret (h : AQD N D Q .ret l w) : CWD P N D Q .ret l w := fun a ha => wp_ret (h a ha)
theorem CWD.region {id : Nat} {os : List Oper} (h : RWD P N D os.toArray Q os l w) : CWD P N D Q (.region id os.toArray false) l w := fun a ha => wp_region_lit (h a ha)
theorem CWD.cond {c : Operand} {x y : Code} {b : Bool} (hc : ev l c = some (.bool b)) (ht : b = true → CWD P N D Q x l w) (hf : b = false → CWD P N D Q y l w) :
    CWD P N D Q (.cond c x y) l w := fun a ha => wp_cond_split (ev_onD ha hc) (fun h => ht h a ha) (fun h => hf h a ha)
theorem RWD.done (h : AQD N D Q .normal l w) : RWD P N D ops Q [] l w := fun a ha => wpList_nil (h a ha)
theorem AQD.next {y : Code} {Q' : Exit → Act → World → Prop} (h : CWD P N D Q y l w) : AQD N D (Exit.then (fun a w => y.wp P Q a w) Q') .normal l w := h
theorem AQD.past_ret {K : Act → World → Prop} (h : AQD N D Q .ret l w) : AQD N D (Exit.then K Q) .ret l w := h
theorem RWD.op1 {d : Tmp} {o : Op} {pos : String} {after : Array Edge} {v : Value} {w' : World} (hd : Nat.blt d N = true)
    (hr : Runs P o ty l w (.value v) w') (h : RWD P N D ops Q rest ((d, v) :: l) w') : RWD P N D ops Q (⟨some d, o, ty, pos, after, none⟩ :: rest) l w := fun a ha =>
  wpList_plain rfl fun K hK => by
    unfold Oper.wp; rw [hr a.eval (fun x v => ev_onD ha) (some d) pos after none]; exact hK _ _ (h _ (Env.onD_put hd ha))
theorem RWD.op0 {o : Op} {pos : String} {after : Array Edge} {w' : World}
    (hr : Runs P o ty l w .skip w') (h : RWD P N D ops Q rest l w') : RWD P N D ops Q (⟨none, o, ty, pos, after, none⟩ :: rest) l w := fun a ha =>
  wpList_plain rfl fun K hK => by
    unfold Oper.wp; rw [hr a.eval (fun x v => ev_onD ha) none pos after none]; exact hK _ _ (h _ ha)
theorem RWD.opE {d : Tmp} {o : Op} {pos : String} {after : Array Edge} {Φ : Value → World → Prop} (hd : Nat.blt d N = true)
    (hr : ∃ v w', Runs P o ty l w (.value v) w' ∧ Φ v w') (h : ∀ v w', Φ v w' → RWD P N D ops Q rest ((d, v) :: l) w') : RWD P N D ops Q (⟨some d, o, ty, pos, after, none⟩ :: rest) l w :=
  let ⟨_, _, h1, h2⟩ := hr; RWD.op1 hd h1 (h _ _ h2)
theorem RWD.opE0 {o : Op} {pos : String} {after : Array Edge} {Φ : World → Prop}
    (hr : ∃ w', Runs P o ty l w .skip w' ∧ Φ w') (h : ∀ w', Φ w' → RWD P N D ops Q rest l w') : RWD P N D ops Q (⟨none, o, ty, pos, after, none⟩ :: rest) l w :=
  let ⟨_, h1, h2⟩ := hr; RWD.op0 h1 (h _ h2)
theorem RWD.defer {x : Operand} {ats : Array TypeId} {pos : String} {after : Array Edge} {fn : Fn} {first cap : Array Value} (hx : ev l x = some (.func fn first cap))
    (h : RWD P N ({ target := .fn fn cap, args := first } :: D) ops Q rest l w) : RWD P N D ops Q (⟨none, .defer ⟨.value x, #[], ats⟩, ty, pos, after, none⟩ :: rest) l w := fun a ha =>
  wpList_plain rfl fun K hK => by
    have h1 : (execOp a.eval ⟨none, .defer ⟨.value x, #[], ats⟩, ty, pos, after, none⟩).run P w = .ok (.defer { target := .fn fn cap, args := first }) w := by
      have e := ev_onD ha hx
      simp only [execOp, resolve, e, Deferred.ofValue]
      simp [go_sem]
    unfold Oper.wp; rw [h1]; exact hK _ _ (h _ ⟨ha.1, by simp [Act.put, ha.2.1], ha.2.2⟩)
theorem runs_makeFunc {f : FuncId} {xs : List Operand} {vs : List Value} (ha : evs l xs = some vs) : Runs P (.makeFunc (.func f) #[] xs.toArray) ty l w (.value (.func (.func f) #[] vs.toArray)) w := fun ρ hρ dst pos after guard => by
  have e2 : (xs.toArray.map ρ) = vs.toArray := by rw [List.map_toArray, evs_on hρ ha]
  simp only [execOp, e2, List.map_toArray, List.map_nil]
  rfl
theorem RWD.call {d : Tmp} {f : FuncId} {fo : Operand} {args : List Operand} {ats : Array TypeId} {pos : String} {after : Array Edge} {vs : List Value} {R : Ending → World → Prop} (hd : Nat.blt d N = true) (hf : Callable P f)
    (hfo : ev l fo = some (.func (.func f) #[] #[])) (ha : evs l args = some vs) (hc : Calls P f vs.toArray w R)
    (h : ∀ e w', R e w' → (∃ v, e = .returned v ∧ RWD P N D ops Q rest ((d, v) :: l) w') ∨ ∃ ch, e = .panicked ch ∧ AQD N D Q (.panic ch) l w') :
    RWD P N D ops Q (⟨some d, .call ⟨.value fo, args.toArray, ats⟩, ty, pos, after, none⟩ :: rest) l w := fun a hon =>
  wpList_plain rfl fun K hK => by
    unfold Oper.wp; rw [runs_call hf hfo ha a.eval (fun x v => ev_onD hon) (some d) pos after none]
    exact Calls.mono hc fun e w' he => by
      rcases h e w' he with ⟨v, rfl, h⟩ | ⟨ch, rfl, h⟩
      · exact hK _ _ (h _ (Env.onD_put hd hon))
      · exact h _ hon
theorem enter_on {fn : Func} {args : List Value} (hN : fn.ntmps = N) (hle : Nat.ble args.length N = true) : Env.on N (args.zipIdx.map fun p => (p.2, p.1)) { tmps := args.toArray ++ Array.replicate (fn.ntmps - args.toArray.size) undef, defers := [] } := by
  have hle' : args.length ≤ N := by simpa using hle
  subst hN; refine ⟨by simp; omega, rfl, fun t v ht => ?_⟩
  have key : ∀ (asq : List Value) (k t : Nat) (v : Value), Env.get ((asq.zipIdx k).map fun p => (p.2, p.1)) t = some v → k ≤ t ∧ asq[t - k]? = some v := by
    intro asq
    induction asq with
    | nil => intro k t v h; simp [Env.get] at h
    | cons x r ih =>
      intro k t v h
      simp only [List.zipIdx_cons, List.map_cons, Env.get] at h
      by_cases e : k = t
      · subst e
        simp [Nat.beq_refl] at h
        subst h; exact ⟨Nat.le_refl _, by simp⟩
      · have hb : Nat.beq k t = false := by
          cases hh : Nat.beq k t with
          | false => rfl
          | true => exact absurd (Nat.eq_of_beq_eq_true hh) e
        rw [hb] at h; obtain ⟨h1, h2⟩ := ih (k + 1) t v h; refine ⟨by omega, ?_⟩
        have : t - k = (t - (k + 1)) + 1 := by omega
        rw [this, List.getElem?_cons_succ]; exact h2
  obtain ⟨_, h2⟩ := key args 0 t v ht
  simp only [Nat.sub_zero] at h2
  have hlt : t < args.length := (List.getElem?_eq_some_iff.1 h2).1
  simp only [Array.getD_eq_getD_getElem?, Array.getElem?_append, List.size_toArray, hlt, if_true, List.getElem?_toArray, h2, Option.getD_some]
end
end Go.Proofs.YtadgbifmiooikaaX
namespace Go.Proofs.YtadgbifmiooikaaX
set_option linter.unusedVariables false
set_option linter.unusedSimpArgs false
open Go Go.RowKit
variable {w0 w : World} {I : Imm} {L : Own} {P : Program} {l : Env} {ty : TypeId} {N : Nat}
inductive EK where
  | i (k : IntKind)
  | s
  | b
def ekOf (P : Program) (t : TypeId) : Option EK := match P.underlying t with
  | some (.int k) => some (.i k)
  | some .string => some .s
  | some .bool => some .b
  | _ => none
def EK.is : EK → Value → Bool
  | .i k, .int k' _ => k == k'
  | .s, .string _ => true
  | .b, .bool _ => true
  | _, _ => false
def EM (P : Program) (t : TypeId) (ks : List EK) : Prop := ∃ fs : Array Field, P.underlying t = some (.struct fs) ∧ P.stoodInHeld t = false ∧ P.eqGuardType P.depth t = false ∧ fs.toList.length = ks.length ∧
  ∀ (i : Nat) (f : Field) (k : EK), fs.toList[i]? = some f → ks[i]? = some k → f.name ≠ "_" ∧ f.offset = i ∧ ekOf P f.type = some k
def EKs : List EK → List Value → Prop
  | [], [] => True
  | k :: ks, v :: vs => k.is v = true ∧ EKs ks vs
  | _, _ => False
theorem EKs.len : ∀ {ks : List EK} {vs : List Value}, EKs ks vs → ks.length = vs.length
  | [], [], _ => rfl
  | _ :: _, _ :: _, h => by simp [EKs.len h.2]
  | [], _ :: _, h => h.elim
  | _ :: _, [], h => h.elim
theorem EKs.get : ∀ {ks : List EK} {vs : List Value}, EKs ks vs → ∀ (i : Nat) (k : EK) (v : Value), ks[i]? = some k → vs[i]? = some v → k.is v = true
  | [], [], _, i, k, v, h, _ => by simp at h
  | _ :: _, _ :: _, hh, 0, k, v, h, h' => by simp at h h'; subst h h'; exact hh.1
  | _ :: _, _ :: _, hh, i + 1, k, v, h, h' => EKs.get hh.2 i k v (by simpa using h) (by simpa using h')
  | [], _ :: _, h, _, _, _, _, _ => h.elim
  | _ :: _, [], h, _, _, _, _, _ => h.elim
def emB (P : Program) (t : TypeId) (ks : List EK) : Bool := match P.underlying t with
  | some (.struct fs) => !(P.stoodInHeld t) && !(P.eqGuardType P.depth t) && fs.toList.length == ks.length && (fs.toList.zipIdx.zip ks).all fun (p, k) => p.1.name != "_" && p.1.offset == p.2 && (match ekOf P p.1.type, k with | some (.i a), .i b => a == b | some .s, .s => true | some .b, .b => true | _, _ => false)
  | _ => false
theorem EM.of {t : TypeId} {ks : List EK} (h : emB P t ks = true) : EM P t ks := by
  unfold emB at h
  cases hu : P.underlying t with
  | none => simp [hu] at h
  | some d =>
    cases d <;> simp only [hu] at h <;> try (exact absurd h (by decide))
    rename_i fs
    simp only [Bool.and_eq_true, Bool.not_eq_true', beq_iff_eq, List.all_eq_true] at h
    obtain ⟨⟨⟨hp, hg⟩, hl⟩, hall⟩ := h; refine ⟨fs, hu, hp, hg, hl, fun i f k hf hk => ?_⟩
    have hm : ((f, i), k) ∈ fs.toList.zipIdx.zip ks := by
      refine List.mem_of_getElem? (i := i) ?_; rw [List.getElem?_zip_eq_some]; exact ⟨by rw [List.getElem?_zipIdx, hf]; simp, hk⟩
    have h2 := hall _ hm
    simp only [Bool.and_eq_true, bne_iff_ne, beq_iff_eq] at h2
    refine ⟨h2.1.1, h2.1.2, ?_⟩; have h3 := h2.2
    cases he : ekOf P f.type with
    | none => rw [he] at h3; cases h3
    | some e => rw [he] at h3; cases e <;> cases k <;> simp at h3 ⊢; exact h3
end Go.Proofs.YtadgbifmiooikaaX
namespace Go.Proofs.YtadgbifmiooikaaX
set_option linter.unusedVariables false
set_option linter.unusedSimpArgs false
open Go Go.RowKit
variable {w0 w : World} {I : Imm} {L : Own} {P : Program} {l : Env} {ty : TypeId} {N : Nat}
theorem slPtr_add (g n c k j : Nat) : (slPtr (.slice (some ⟨g, 0, none⟩) n c) k).add j = slPtr (.slice (some ⟨g, 0, none⟩) n c) (k + j) := by
  simp only [slPtr]
  rw [Addr.add_add]
theorem slPtr_lit (g n c k : Nat) : slPtr (.slice (some ⟨g, 0, none⟩) n c) k = ⟨g, k, none⟩ := by
  simp only [slPtr]
  rw [add_lit, Nat.zero_add]
theorem Grow.cell {e : TypeId} {size n : Nat} {v : Value} {xs : List Value} {Lv : Own} (hg : Grow e size v n xs Lv) (hst : St w0 w I L) (hsub : ∀ p ∈ Lv, p ∈ L) {j : Nat} {u : Value} (hj : xs[j]? = some u) : w.cell? (slPtr v j) = some u := by
  obtain ⟨h1, h0, ⟨rfl, rfl, rfl⟩ | ⟨g, cap, cur, rfl, rfl, h3, h4, h5, h6⟩⟩ := hg
  · have : xs = [] := List.eq_nil_of_length_eq_zero (by simpa using h1); subst this
    cases hj
  · rw [slPtr_lit]; obtain ⟨k, hk⟩ := List.getElem?_of_mem (hsub (g, .cells cur e) (List.mem_cons_self ..)); refine hst.cell_own hk ?_; rw [← h6, List.getElem?_take] at hj
    split at hj
    · simpa using hj
    · cases hj
theorem Grow.indexAddr {t e e' : TypeId} {x y : Operand} {v : Value} {n : Nat} {xs : List Value} {Lv : Own} {k : IntKind} {i : Int} {z : Value} {size bytes : Nat} (ht : P.underlying t = some (.slice e)) (he : TI P e z size bytes) (hg : Grow e' size v n xs Lv) (hx : ev l x = some v) (hy : ev l y = some (.int k i)) (h : 0 ≤ i ∧ i < n) :
    Runs P (.indexAddr t x y) ty l w (.value (.pointer (some (slPtr v (i.toNat * size))))) w := by
  obtain ⟨h1, h0, ⟨rfl, rfl, rfl⟩ | ⟨g, cap, cur, rfl, rfl, h3, h4, h5, h6⟩⟩ := hg
  · simp at h; omega
  · have := runs_indexAddr0 (w := w) (ty := ty) ht he hx hy h; rw [slPtr_lit]
    rwa [Nat.zero_add] at this
theorem Grow.loadAt {e T : TypeId} {x : Operand} {z : Value} {n size sz bytes i : Nat} {v : Value} {xs row : List Value} {Lv : Own} (hT : isAggT P T = true) (ht : TI P T z sz bytes) (hg : Grow e size v n xs Lv) (hx : ev l x = some (.pointer (some (slPtr v i)))) (hst : St w0 w I L) (hsub : ∀ p ∈ Lv, p ∈ L) (hlen : row.length = sz)
    (hget : ∀ j u, row[j]? = some u → xs[i + j]? = some u) : Runs P (.load T x) ty l w (.value (.agg row.toArray)) w := by
  refine runs_loadA hT (by rw [hlen]; exact ht) hx fun j u hj => ?_
  have h1 := hg.cell hst hsub (hget j u hj); obtain ⟨_, _, ⟨rfl, rfl, rfl⟩ | ⟨g, cap, cur, rfl, rfl, h3, h4, h5, h6⟩⟩ := hg
  · have : xs = [] := List.eq_nil_of_length_eq_zero (by simpa using ‹xs.length = 0 * size›); subst this; have := hget j u hj
    cases this
  · rw [slPtr_add]; exact h1
theorem Grow.load1 {e T : TypeId} {x : Operand} {n size i : Nat} {v u : Value} {xs : List Value} {Lv : Own} (hT : isScalar P T = true) (hg : Grow e size v n xs Lv) (hx : ev l x = some (.pointer (some (slPtr v i)))) (hst : St w0 w I L) (hsub : ∀ p ∈ Lv, p ∈ L) (hget : xs[i]? = some u) : Runs P (.load T x) ty l w (.value u) w :=
  runs_load1 hT hx (hg.cell hst hsub hget)
theorem set_mid {α : Type} (L1 L2 : List α) (a b : α) : (L1 ++ ([a] ++ L2)).set L1.length b = L1 ++ ([b] ++ L2) := by simp
theorem get_mid {α : Type} (L1 L2 : List α) (a : α) : (L1 ++ ([a] ++ L2))[L1.length]? = some a := by simp
theorem take_over {α : Type} (cur xs vs : List α) (m i : Nat) (h : cur.take m = xs) (hi : i + vs.length ≤ m) (hm : m ≤ cur.length) : (cur.take i ++ vs ++ cur.drop (i + vs.length)).take m = xs.take i ++ vs ++ xs.drop (i + vs.length) := by
  have hxl : xs.length = m := by rw [← h, List.length_take]; omega
  have hc : cur = xs ++ cur.drop m := by rw [← h, List.take_append_drop]
  generalize cur.drop m = rest at hc
  subst hc; have e1 : (xs ++ rest).take i = xs.take i := List.take_append_of_le_length (by omega); have e2 : (xs ++ rest).drop (i + vs.length) = xs.drop (i + vs.length) ++ rest := List.drop_append_of_le_length (by omega); rw [e1, e2, ← List.append_assoc, List.take_left' (by simp only [List.length_append, List.length_take, List.length_drop]; omega)]
theorem Grow.storeAt {e S : TypeId} {x y : Operand} {z : Value} {n size sz bytes i : Nat} {v : Value} {xs row : List Value} {L1 L2 Lv : Own} (ht : TI P S z sz bytes) (hg : Grow e size v n xs Lv) (hx : ev l x = some (.pointer (some (slPtr v i)))) (hy : ev l y = some (.agg row.toArray)) (hst : St w0 w I (L1 ++ (Lv ++ L2))) (hlen : row.length = sz)
    (hpos : 0 < n) (hi : i + sz ≤ n * size) (hone : ∀ u ∈ row, u.oneCell' = true) :
    ∃ w', Runs P (.store S x y) ty l w .skip w' ∧ ∃ Lv', St w0 w' I (L1 ++ (Lv' ++ L2)) ∧ Grow e size v n (xs.take i ++ row ++ xs.drop (i + row.length)) Lv' := by
  subst hlen; obtain ⟨h1, h0, ⟨rfl, rfl, rfl⟩ | ⟨g, cap, cur, rfl, rfl, h3, h4, h5, h6⟩⟩ := hg
  · omega
  · rw [slPtr_lit] at hx; have hm : n * size ≤ cap * size := Nat.mul_le_mul_right _ h3; obtain ⟨w', h7, h8⟩ := runs_storeA (ty := ty) ht hx hy hst (get_mid L1 L2 _) (by omega) (NoFz.zero _) hone; rw [set_mid] at h8; refine ⟨w', h7, _, h8, ?_, ?_, .inr ⟨g, cap, _, rfl, rfl, h3, h4, ?_, ?_⟩⟩
    · simp only [List.length_append, List.length_take, List.length_drop, h1]; omega
    · intro u hu
      rcases List.mem_append.1 hu with hu | hu
      · rcases List.mem_append.1 hu with hu | hu
        · exact h0 u (List.mem_of_mem_take hu)
        · exact hone u hu
      · exact h0 u (List.mem_of_mem_drop hu)
    · simp only [List.size_toArray, List.length_append, List.length_take, List.length_drop, Array.length_toList]; omega
    · exact take_over cur.toList xs row (n * size) i h6 hi (by rw [Array.length_toList, h5]; exact hm)
theorem runs_sliceA {t e len : Nat} {x : Operand} {a : Addr} {z : Value} {size bytes : Nat} (ht : P.underlying t = some (.array len e)) (he : TI P e z size bytes) (hx : ev l x = some (.pointer (some a))) :
    Runs P (.slice t x none none none) ty l w (.value (.slice (some a) len len)) w :=
  .of (fun ρ => Instr.sliceAt t (ρ x) none none none) (fun _ _ _ _ _ => rfl) fun ρ hρ => by
    have e1 : a.add (0 * size) = a := by rw [Nat.zero_mul]; simp [Addr.add]
    simp only [hρ x _ hx, Instr.sliceAt, Sem.run_bind, run_underlying ht, Instr.sureAddr, Instr.sliceBounds, Result.andThen, pure, Sem.run, he.run_size, e1, ite_self, Nat.sub_zero]
theorem runs_arrayAt {t e len : Nat} {x : Operand} {v : Value} {n : Nat} {xs : List Value} {size : Nat} (ht : P.underlying t = some (.array len e)) (hx : ev l x = some v) (hr : RdL I size v n xs) (h0 : 0 < n) (hs : 0 < size) (h : len ≤ n) :
    Runs P (.sliceToArrayPointer t x) ty l w (.value (.pointer (some (slPtr v 0)))) w :=
  .of (fun ρ => Instr.arrayAt t (ρ x)) (fun _ _ _ _ _ => rfl) fun ρ hρ => by
    obtain ⟨h1, _, A, cap, rfl, _, h4⟩ := hr
    have hpos : 0 < xs.length := by rw [h1]; exact Nat.mul_pos h0 hs
    obtain ⟨a, rfl, _⟩ := h4 0 xs[0] (by simp [hpos])
    have e1 : slPtr (.slice (some a) n cap) 0 = a := by simp [slPtr, Addr.add]
    rw [e1]
    simp only [hρ x _ hx, Instr.arrayAt, Sem.run_bind, run_underlying ht, Result.andThen]
    rw [if_neg (by omega)]
    rfl
theorem RdL.loadAt {x : Operand} {T : TypeId} {z : Value} {bytes n size sz i : Nat} {v : Value} {xs row : List Value} (hT : isAggT P T = true) (ht : TI P T z sz bytes) (hx : ev l x = some (.pointer (some (slPtr v i)))) (hr : RdL I size v n xs) (hst : St w0 w I L) (hlen : row.length = sz)
    (hget : ∀ j u, row[j]? = some u → xs[i + j]? = some u) : Runs P (.load T x) ty l w (.value (.agg row.toArray)) w := by
  refine runs_loadA hT (by rw [hlen]; exact ht) hx fun j u hj => ?_
  have h1 := hst.cell_imm (hr.cell (hget j u hj)); obtain ⟨_, _, A, cap, rfl, _, h4⟩ := hr; obtain ⟨a, rfl, _⟩ := h4 _ u (hget j u hj)
  simp only [slPtr] at h1 ⊢
  rw [Addr.add_add]; exact h1
end Go.Proofs.YtadgbifmiooikaaX
namespace Go.Proofs.YtadgbifmiooikaaX
set_option linter.unusedVariables false
set_option linter.unusedSimpArgs false
open Go Go.RowKit
variable {w0 w : World} {I : Imm} {L : Own} {P : Program} {l : Env} {ty : TypeId} {N : Nat}
section
variable {κ : Type} [DecidableEq κ]
def mfind : List (κ × Value) → κ → Nat → Option (Nat × Value)
  | [], _, _ => none
  | (a, u) :: r, k, i => if k = a then some (i, u) else mfind r k (i + 1)
def mget : List (κ × Value) → κ → Option Value
  | [], _ => none
  | (a, u) :: r, k => if k = a then some u else mget r k
def mput : List (κ × Value) → κ → Value → List (κ × Value)
  | [], k, v => [(k, v)]
  | (a, u) :: r, k, v => if k = a then (a, v) :: r else (a, u) :: mput r k v
theorem mfind_get : ∀ (rows : List (κ × Value)) (k : κ) (i : Nat), (mfind rows k i).map (·.2) = mget rows k
  | [], _, _ => rfl
  | (a, u) :: r, k, i => by
    unfold mfind mget
    split
    · rfl
    · exact mfind_get r k (i + 1)
theorem mfind_ge : ∀ (rows : List (κ × Value)) (k : κ) (i j : Nat) (u : Value), mfind rows k i = some (j, u) → i ≤ j
  | [], _, _, _, _, h => by cases h
  | (a, x) :: r, k, i, j, u, h => by
    unfold mfind at h
    split at h
    · cases h; exact Nat.le_refl _
    · have := mfind_ge r k (i + 1) j u h; omega
def MRel (enc : κ → Value) (es : List MapEntry) (rows : List (κ × Value)) : Prop := es.map (fun e => (e.key, e.val)) = rows.map fun r => (enc r.1, r.2)
theorem MRel.put {enc : κ → Value} {k : κ} {v : Value} : ∀ {es : List MapEntry} {rows : List (κ × Value)} (h : MRel enc es rows) (i j : Nat) (u : Value), mfind rows k i = some (j, u) → MRel enc (es.modify (j - i) fun e => { e with key := enc k, val := v }) (mput rows k v)
  | [], [], _, _, _, _, hf => by cases hf
  | [], _ :: _, h, _, _, _, _ => by cases h
  | _ :: _, [], h, _, _, _, _ => by cases h
  | e :: es, (a, x) :: r, h, i, j, u, hf => by
    unfold MRel at h
    simp only [List.map_cons, List.cons.injEq, Prod.mk.injEq] at h
    unfold mfind at hf
    by_cases hk : k = a
    · rw [if_pos hk] at hf
      cases hf
      subst hk; unfold mput; rw [if_pos rfl, Nat.sub_self]; unfold MRel
      simp [h.2]
    · rw [if_neg hk] at hf; have hge := mfind_ge r k (i + 1) j u hf; have ih := MRel.put (v := v) h.2 (i + 1) j u hf; unfold mput; rw [if_neg hk, show j - i = (j - (i + 1)) + 1 by omega]; unfold MRel at ih ⊢
      simp [ih, h.1]
theorem MRel.push {enc : κ → Value} {k : κ} {v : Value} {c : Nat} : ∀ {es : List MapEntry} {rows : List (κ × Value)} (h : MRel enc es rows) (i : Nat), mfind rows k i = none → MRel enc (es ++ [{ key := enc k, val := v, born := c }]) (mput rows k v)
  | [], [], _, _, _ => rfl
  | [], _ :: _, h, _, _ => by cases h
  | _ :: _, [], h, _, _ => by cases h
  | e :: es, (a, x) :: r, h, i, hf => by
    unfold MRel at h
    simp only [List.map_cons, List.cons.injEq, Prod.mk.injEq] at h
    unfold mfind at hf
    by_cases hk : k = a
    · rw [if_pos hk] at hf; cases hf
    · rw [if_neg hk] at hf; have ih := MRel.push (v := v) (c := c) h.2 (i + 1) hf; unfold mput; rw [if_neg hk]; unfold MRel at ih ⊢
      simp [ih, h.1]
structure KeyL (P : Program) (kt : TypeId) (enc : κ → Value) : Prop where
  chk : ∀ (e : Bool) (k : κ) (w : World), (Instr.checkKey e 10000 kt (enc k)).run P w = .ok () w
  fnd : ∀ (w : World) (k : κ) (es : List MapEntry) (rows : List (κ × Value)), MRel enc es rows → (Instr.findKey kt (enc k) es).run P w = .ok (mfind rows k 0) w
  same : ∀ k, Instr.sameBits 10000 (enc k) (enc k) = true
def MapR (enc : κ → Value) (o : Obj) (rows : List (κ × Value)) : Prop := ∃ es clock, o = .map es clock ∧ MRel enc es.toList rows ∧ (∀ e ∈ es.toList, e.born < clock) ∧ (es.toList.map (·.born)).Nodup
omit [DecidableEq κ] in
theorem MapR.empty (enc : κ → Value) : MapR enc (.map #[] 0) [] := ⟨#[], 0, rfl, rfl, by simp, by simp⟩
theorem runs_makeMap {t : TypeId} (hst : St w0 w I L) :
    ∃ v w', Runs P (.makeMap t none) ty l w (.value v) w' ∧ ∃ b, v = .map (some b) ∧ St w0 w' I ((b, .map #[] 0) :: L) :=
  ⟨_, _, .of (fun _ => Instr.makeMap t none) (fun _ _ _ _ _ => rfl) fun ρ hρ => by
    simp [Instr.makeMap, go_sem, newObj]; rfl, _, rfl, hst.heap_new _⟩
theorem runs_lookup {enc : κ → Value} {t kt et : TypeId} {x y : Operand} {b i : Nat} {o : Obj} {rows : List (κ × Value)} {key : κ} {z : Value} {size bytes : Nat} (hK : KeyL P kt enc) (ht : P.underlying t = some (.map kt et)) (he : TI P et z size bytes)
    (hx : ev l x = some (.map (some b))) (hy : ev l y = some (enc key)) (hst : St w0 w I L) (hL : L[i]? = some (b, o)) (hr : MapR enc o rows) :
    Runs P (.lookup t x y false) ty l w (.value ((mget rows key).getD z)) w :=
  .of (fun ρ => Instr.lookup t (ρ x) (ρ y) false) (fun _ _ _ _ _ => rfl) fun ρ hρ => by
    obtain ⟨es, clock, rfl, h1, _, _⟩ := hr; have hb : w.heap[b]? = some (.map es clock) := hst.own _ (List.mem_of_getElem? hL)
    simp only [hρ x _ hx, hρ y _ hy, Instr.lookup, Sem.run_bind, run_underlying ht, Result.andThen, MapKept.run_getObj_map hb, hK.chk, hK.fnd w key _ _ h1, pure, Sem.run]
    rw [← mfind_get rows key 0]
    cases hf : mfind rows key 0 with
    | none => simp [he.run_zero, Sem.run_bind, Result.andThen, pure, Sem.run]
    | some p => simp [Sem.run_bind, Result.andThen, pure, Sem.run]
theorem runs_mapUpdate {enc : κ → Value} {t kt et : TypeId} {x y u : Operand} {b i : Nat} {o : Obj} {rows : List (κ × Value)} {key : κ} {v : Value} (hK : KeyL P kt enc) (ht : P.underlying t = some (.map kt et))
    (hx : ev l x = some (.map (some b))) (hy : ev l y = some (enc key)) (hu : ev l u = some v) (hst : St w0 w I L) (hL : L[i]? = some (b, o)) (hr : MapR enc o rows) :
    ∃ w', Runs P (.mapUpdate t x y u) ty l w .skip w' ∧ ∃ o', St w0 w' I (L.set i (b, o')) ∧ MapR enc o' (mput rows key v) := by
  obtain ⟨es, clock, rfl, h1, h2, h3⟩ := hr; have hb : w.heap[b]? = some (.map es clock) := hst.own _ (List.mem_of_getElem? hL)
  have put : ∀ o', St w0 { w with heap := w.heap.setIfInBounds b o' } I (L.set i (b, o')) := fun o' =>
    hst.put hL rfl rfl rfl (MapKept.heap_set hb).1 fun j hj _ => (MapKept.heap_set hb).2 j hj
  have hf := hK.fnd w key _ _ h1
  cases hm : mfind rows key 0 with
  | none =>
    rw [hm] at hf; refine ⟨{ w with heap := w.heap.setIfInBounds b (.map (es.push { key := enc key, val := v, born := clock }) (clock + 1)) }, .ofU (fun ρ => Instr.mapUpdate t (ρ x) (ρ y) (ρ u)) (fun _ _ _ _ _ => rfl) fun ρ hρ => ?_, _, put _, es.push { key := enc key, val := v, born := clock }, clock + 1, rfl, ?_, ?_, ?_⟩
    · simp only [hρ x _ hx, hρ y _ hy, hρ u _ hu, Instr.mapUpdate, Sem.run_bind, run_underlying ht, Result.andThen, MapKept.run_getObj_map hb, hK.chk, hf, MapKept.run_setObj_map _ hb]
    · rw [Array.toList_push]; exact h1.push 0 hm
    · intro e he; rw [Array.toList_push] at he
      rcases List.mem_append.1 he with h | h
      · have := h2 e h; omega
      · rw [List.mem_singleton.1 h]; exact Nat.lt_succ_self _
    · rw [Array.toList_push, List.map_append]; refine List.nodup_append.2 ⟨h3, by simp, ?_⟩; intro a ha b hb e; obtain ⟨y, hy, rfl⟩ := List.mem_map.1 ha; have := h2 y hy
      simp only [List.map_cons, List.map_nil, List.mem_singleton] at hb
      omega
  | some p =>
    obtain ⟨j, u0⟩ := p; rw [hm] at hf
    have hkeys : ∀ (es : List MapEntry) (rows : List (κ × Value)) (i0 : Nat), MRel enc es rows → ∀ {j : Nat} {u0 : Value}, mfind rows key i0 = some (j, u0) → (es[j - i0]?).map (·.key) = some (enc key) := by
      intro es
      induction es with
      | nil => intro rows i0 h j u0 hm; cases rows with
        | nil => cases hm
        | cons p r => cases h
      | cons e es ih => intro rows i0 h j u0 hm; cases rows with
        | nil => cases hm
        | cons p r =>
          obtain ⟨a, x⟩ := p; unfold MRel at h
          simp only [List.map_cons, List.cons.injEq, Prod.mk.injEq] at h
          unfold mfind at hm
          by_cases hk : key = a
          · rw [if_pos hk] at hm; cases hm; rw [Nat.sub_self]; subst hk; simp [h.1.1]
          · rw [if_neg hk] at hm; have hge := mfind_ge r key (i0 + 1) j u0 hm; rw [show j - i0 = (j - (i0 + 1)) + 1 by omega, List.getElem?_cons_succ]; exact ih r (i0 + 1) h.2 hm
    have hkey := hkeys es.toList rows 0 h1 hm; rw [Nat.sub_zero, Array.getElem?_toList] at hkey
    have hstay : (Instr.keyThatStays (enc key) (enc key)).run P w = .ok (enc key) w := by simp [Instr.keyThatStays, hK.same]
    refine ⟨{ w with heap := w.heap.setIfInBounds b (.map (es.modify j fun e => { e with key := enc key, val := v }) clock) }, .ofU (fun ρ => Instr.mapUpdate t (ρ x) (ρ y) (ρ u)) (fun _ _ _ _ _ => rfl) fun ρ hρ => ?_, _, put _, es.modify j (fun e => { e with key := enc key, val := v }), clock, rfl, ?_, ?_, ?_⟩
    · simp only [hρ x _ hx, hρ y _ hy, hρ u _ hu, Instr.mapUpdate, Sem.run_bind, run_underlying ht, Result.andThen, MapKept.run_getObj_map hb, hK.chk, hf, hkey, Option.getD_some, hstay, MapKept.run_setObj_map _ hb]
    · rw [Array.toList_modify]; exact h1.put 0 j u0 hm
    · intro e he; rw [Array.toList_modify] at he; obtain ⟨q, hq⟩ := List.getElem?_of_mem he; rw [List.getElem?_modify] at hq
      cases hes : es.toList[q]? with
      | none => rw [hes] at hq; cases hq
      | some e0 =>
        have h4 := h2 e0 (List.mem_of_getElem? hes); rw [hes] at hq
        by_cases hjq : j = q
        · simp [hjq] at hq; rw [← hq]; exact h4
        · simp [hjq] at hq; rw [← hq]; exact h4
    · have : ((es.modify j fun e => { e with key := enc key, val := v }).toList.map (·.born)) = es.toList.map (·.born) := by
        rw [Array.toList_modify]
        apply List.ext_getElem?
        intro q; rw [List.getElem?_map, List.getElem?_map, List.getElem?_modify]
        cases es.toList[q]? with
        | none => rfl
        | some e0 => by_cases hjq : j = q <;> simp [hjq]
      rw [this]; exact h3
end
def kI (n : Int) : Value := .int .i64 n
theorem keyI {kt : TypeId} (hk : P.underlying kt = some (.int .i64)) : KeyL P kt kI where
  chk e k w := by
    show (Instr.checkKey e (9999 + 1) kt _).run P w = _
    unfold Instr.checkKey
    simp [Sem.run_bind, run_underlying hk, Result.andThen, kI, pure, Sem.run]
  same k := by simp [Instr.sameBits, kI]
  fnd w k es rows h := by
    have key : ∀ (es : List MapEntry) (rows : List (Int × Value)) (i : Nat), MRel kI es rows → Instr.findNow (.int .i64) (kI k) es i = some (mfind rows k i) := by
      intro es
      induction es with
      | nil => intro rows i h; cases rows with
        | nil => rfl
        | cons p r => cases h
      | cons e es ih => intro rows i h; cases rows with
        | nil => cases h
        | cons p r =>
          obtain ⟨a, x⟩ := p; unfold MRel at h
          simp only [List.map_cons, List.cons.injEq, Prod.mk.injEq] at h
          unfold Instr.findNow mfind; rw [h.1.1]
          simp only [Instr.sameNow, kI, if_true]
          by_cases hk : k = a
          · simp [hk, h.1.2]
          · have : (k == a) = false := by simpa using hk
            rw [this, if_neg hk]; exact ih r (i + 1) h.2
    simp [Instr.findKey, run_underlying hk, Result.andThen, Sem.run_bind, key es rows 0 h, pure, Sem.run]
def kZ (xs : List Int) : Value := .agg (xs.map fun n => Value.int .i64 n).toArray
structure ZKey (n : Nat) where
  xs : List Int
  len : xs.length = n
  deriving DecidableEq
def ZKey.v {n : Nat} (k : ZKey n) : Value := kZ k.xs
theorem EZ.opn {kt : TypeId} {n : Nat} (hk : EZ P kt n = true) : ∃ fs : Array Field, P.underlying kt = some (.struct fs) ∧ fs.toList.length = n ∧ ∀ p ∈ fs.toList.zipIdx, (p.1.name != "_" && p.1.offset == p.2 && isI64 P p.1.type) = true := by
  unfold EZ at hk
  cases hu : P.underlying kt with
  | none => simp [hu] at hk
  | some d =>
    cases d <;> simp only [hu] at hk <;> try (exact absurd hk (by decide))
    rename_i fs
    simp only [Bool.and_eq_true, beq_iff_eq, List.all_eq_true] at hk
    exact ⟨fs, rfl, hk.1.2, fun p hp => by simpa using hk.2 p hp⟩
end Go.Proofs.YtadgbifmiooikaaX
namespace Go.Proofs.YtadgbifmiooikaaX
set_option linter.unusedVariables false
set_option linter.unusedSimpArgs false
open Go Go.RowKit
variable {w0 w : World} {I : Imm} {L : Own} {P : Program} {l : Env} {ty : TypeId} {N : Nat}
section
variable {κ : Type} [DecidableEq κ]
def mdel : List (κ × Value) → κ → List (κ × Value)
  | [], _ => []
  | (a, u) :: r, k => if k = a then r else (a, u) :: mdel r k
theorem MRel.del {enc : κ → Value} {k : κ} : ∀ {es : List MapEntry} {rows : List (κ × Value)} (h : MRel enc es rows) (i j : Nat) (u : Value), mfind rows k i = some (j, u) → MRel enc (es.eraseIdx (j - i)) (mdel rows k)
  | [], [], _, _, _, _, hf => by cases hf
  | [], _ :: _, h, _, _, _, _ => by cases h
  | _ :: _, [], h, _, _, _, _ => by cases h
  | e :: es, (a, x) :: r, h, i, j, u, hf => by
    unfold MRel at h
    simp only [List.map_cons, List.cons.injEq, Prod.mk.injEq] at h
    unfold mfind at hf
    by_cases hk : k = a
    · rw [if_pos hk] at hf
      cases hf
      unfold mdel; rw [if_pos hk, Nat.sub_self, List.eraseIdx_cons_zero]; exact h.2
    · rw [if_neg hk] at hf; have hge := mfind_ge r k (i + 1) j u hf; have ih := MRel.del h.2 (i + 1) j u hf; unfold mdel; rw [if_neg hk, show j - i = (j - (i + 1)) + 1 by omega, List.eraseIdx_cons_succ]; unfold MRel at ih ⊢
      simp [ih, h.1]
theorem mfind_none {rows : List (κ × Value)} {k : κ} (h : mfind rows k 0 = none) : mdel rows k = rows := by
  have key : ∀ (rows : List (κ × Value)) (i : Nat), mfind rows k i = none → mdel rows k = rows := by
    intro rows
    induction rows with
    | nil => intro i _; rfl
    | cons p r ih =>
      obtain ⟨a, x⟩ := p; intro i hf; unfold mfind at hf
      by_cases hk : k = a
      · rw [if_pos hk] at hf; cases hf
      · rw [if_neg hk] at hf; unfold mdel; rw [if_neg hk, ih (i + 1) hf]
  exact key rows 0 h
omit [DecidableEq κ] in
theorem MapR.length {enc : κ → Value} {o : Obj} {rows : List (κ × Value)} (h : MapR enc o rows) : ∃ es clock, o = .map es clock ∧ es.size = rows.length := by
  obtain ⟨es, clock, rfl, h1, _⟩ := h; refine ⟨es, clock, rfl, ?_⟩; have := congrArg List.length h1
  simpa using this
theorem runs_lookupOk {enc : κ → Value} {t kt et : TypeId} {x y : Operand} {b i : Nat} {o : Obj} {rows : List (κ × Value)} {key : κ} {z : Value} {size bytes : Nat} (hK : KeyL P kt enc) (ht : P.underlying t = some (.map kt et)) (he : TI P et z size bytes)
    (hx : ev l x = some (.map (some b))) (hy : ev l y = some (enc key)) (hst : St w0 w I L) (hL : L[i]? = some (b, o)) (hr : MapR enc o rows) :
    Runs P (.lookup t x y true) ty l w (.value (.tuple #[(mget rows key).getD z, .bool (mget rows key).isSome])) w :=
  .of (fun ρ => Instr.lookup t (ρ x) (ρ y) true) (fun _ _ _ _ _ => rfl) fun ρ hρ => by
    obtain ⟨es, clock, rfl, h1, _, _⟩ := hr; have hb : w.heap[b]? = some (.map es clock) := hst.own _ (List.mem_of_getElem? hL)
    simp only [hρ x _ hx, hρ y _ hy, Instr.lookup, Sem.run_bind, run_underlying ht, Result.andThen, MapKept.run_getObj_map hb, hK.chk, hK.fnd w key _ _ h1, pure, Sem.run]
    rw [← mfind_get rows key 0]
    cases hf : mfind rows key 0 with
    | none => simp [he.run_zero, Sem.run_bind, Result.andThen, pure, Sem.run]
    | some p => simp [Sem.run_bind, Result.andThen, pure, Sem.run]
theorem runs_delete {enc : κ → Value} {t t2 kt et : TypeId} {x y : Operand} {b i : Nat} {o : Obj} {rows : List (κ × Value)} {key : κ} (hK : KeyL P kt enc) (ht : P.underlying t = some (.map kt et))
    (hx : ev l x = some (.map (some b))) (hy : ev l y = some (enc key)) (hst : St w0 w I L) (hL : L[i]? = some (b, o)) (hr : MapR enc o rows) :
    ∃ v w', Runs P (.call ⟨.builtin .delete, #[x, y], #[t, t2]⟩) ty l w (.value v) w' ∧ ∃ o', St w0 w' I (L.set i (b, o')) ∧ MapR enc o' (mdel rows key) := by
  obtain ⟨es, clock, rfl, h1, h2, h3⟩ := hr; have hb : w.heap[b]? = some (.map es clock) := hst.own _ (List.mem_of_getElem? hL)
  have put : ∀ o', St w0 { w with heap := w.heap.setIfInBounds b o' } I (L.set i (b, o')) := fun o' =>
    hst.put hL rfl rfl rfl (MapKept.heap_set hb).1 fun j hj _ => (MapKept.heap_set hb).2 j hj
  have hf := hK.fnd w key _ _ h1
  cases hm : mfind rows key 0 with
  | none =>
    rw [hm] at hf
    have hrun : (Builtin.delete_ #[t, t2] ty #[.map (some b), enc key]).run P w = .ok (.tuple #[]) { w with heap := w.heap.setIfInBounds b (.map es clock) } := by
      unfold Builtin.delete_
      simp [Sem.run_bind, run_underlying ht, Result.andThen, MapKept.run_getObj_map hb, hK.chk, hf, MapKept.run_setObj_map _ hb, pure, Sem.run]
    exact ⟨_, _, Runs.bi (args := [x, y]) (vs := [.map (some b), enc key]) (by simp [evs, hx, hy]) (fun consts => by simp only [builtin, Sem.run_bind, hrun]; rfl), _, put _, es, clock, rfl, by rw [mfind_none hm]; exact h1, h2, h3⟩
  | some p =>
    obtain ⟨j, u0⟩ := p; rw [hm] at hf
    have hrun : (Builtin.delete_ #[t, t2] ty #[.map (some b), enc key]).run P w = .ok (.tuple #[]) { w with heap := w.heap.setIfInBounds b (.map (es.eraseIdxIfInBounds j) clock) } := by
      unfold Builtin.delete_
      simp [Sem.run_bind, run_underlying ht, Result.andThen, MapKept.run_getObj_map hb, hK.chk, hf, MapKept.run_setObj_map _ hb, pure, Sem.run]
    have hel : (es.eraseIdxIfInBounds j).toList = es.toList.eraseIdx j := by
      unfold Array.eraseIdxIfInBounds
      split
      · rw [Array.toList_eraseIdx]
      · rw [List.eraseIdx_of_length_le (by simpa using Nat.le_of_not_lt ‹_›)]
    refine ⟨_, _, Runs.bi (args := [x, y]) (vs := [.map (some b), enc key]) (by simp [evs, hx, hy]) (fun consts => by simp only [builtin, Sem.run_bind, hrun]; rfl), _, put _, es.eraseIdxIfInBounds j, clock, rfl, ?_, ?_, ?_⟩
    · rw [hel]; exact MRel.del h1 0 j u0 hm
    · intro e he; rw [hel] at he; exact h2 e (List.mem_of_mem_eraseIdx he)
    · rw [hel]; exact List.Nodup.sublist ((List.eraseIdx_sublist _ _).map _) h3
end
section
variable {α : Type}
def pget : List (Int × α) → Int → Option α
  | [], _ => none
  | (a, u) :: r, k => if k = a then some u else pget r k
def pput : List (Int × α) → Int → α → List (Int × α)
  | [], k, v => [(k, v)]
  | (a, u) :: r, k, v => if k = a then (a, v) :: r else (a, u) :: pput r k v
def pdel : List (Int × α) → Int → List (Int × α)
  | [], _ => []
  | (a, u) :: r, k => if k = a then r else (a, u) :: pdel r k
def rend (g : α → Value) (rows : List (Int × α)) : List (Int × Value) := rows.map fun r => (r.1, g r.2)
variable {g : α → Value}
theorem mget_rend (rows : List (Int × α)) (k : Int) : mget (rend g rows) k = (pget rows k).map g := by
  induction rows with
  | nil => rfl
  | cons p r ih =>
    obtain ⟨a, u⟩ := p; unfold rend at ih ⊢; rw [List.map_cons]; unfold mget pget
    split
    · rfl
    · exact ih
theorem mput_rend (rows : List (Int × α)) (k : Int) (v : α) : mput (rend g rows) k (g v) = rend g (pput rows k v) := by
  induction rows with
  | nil => rfl
  | cons p r ih =>
    obtain ⟨a, u⟩ := p; unfold rend at ih ⊢; rw [List.map_cons]; unfold mput pput
    split
    · rfl
    · rw [ih]; rfl
theorem mdel_rend (rows : List (Int × α)) (k : Int) : mdel (rend g rows) k = rend g (pdel rows k) := by
  induction rows with
  | nil => rfl
  | cons p r ih =>
    obtain ⟨a, u⟩ := p; unfold rend at ih ⊢; rw [List.map_cons]; unfold mdel pdel
    split
    · rfl
    · rw [ih]; rfl
theorem rend_keys (rows : List (Int × α)) : (rend g rows).map Prod.fst = rows.map Prod.fst := by
  unfold rend; rw [List.map_map]
  rfl
theorem rend_len (rows : List (Int × α)) : (rend g rows).length = rows.length := List.length_map _
theorem pget_none {rows : List (Int × α)} {k : Int} : pget rows k = none ↔ k ∉ rows.map Prod.fst := by
  induction rows with
  | nil => simp [pget]
  | cons p r ih =>
    obtain ⟨a, x⟩ := p; unfold pget
    by_cases h : k = a
    · subst h; simp
    · rw [if_neg h, ih]; simp [h]
theorem pget_mem {rows : List (Int × α)} {k : Int} {u : α} (h : pget rows k = some u) : (k, u) ∈ rows := by
  induction rows with
  | nil => cases h
  | cons p r ih =>
    obtain ⟨a, x⟩ := p; unfold pget at h
    by_cases e : k = a
    · rw [if_pos e] at h; cases h; subst e; exact List.mem_cons_self ..
    · rw [if_neg e] at h; exact List.mem_cons_of_mem _ (ih h)
theorem pput_keys (rows : List (Int × α)) (k : Int) (v : α) : (pput rows k v).map Prod.fst = if k ∈ rows.map Prod.fst then rows.map Prod.fst else rows.map Prod.fst ++ [k] := by
  induction rows with
  | nil => simp [pput]
  | cons p r ih =>
    obtain ⟨a, x⟩ := p; unfold pput
    by_cases h : k = a
    · subst h; simp
    · rw [if_neg h, List.map_cons, ih]
      by_cases h2 : k ∈ r.map Prod.fst
      · rw [if_pos h2, if_pos (by simp only [List.map_cons]; exact List.mem_cons_of_mem _ h2)]; rfl
      · rw [if_neg h2, if_neg (by simp only [List.map_cons, List.mem_cons, not_or]; exact ⟨h, h2⟩)]; rfl
theorem pput_nodup {rows : List (Int × α)} (hn : (rows.map Prod.fst).Nodup) (k : Int) (v : α) : ((pput rows k v).map Prod.fst).Nodup := by
  rw [pput_keys]
  split
  · exact hn
  · rename_i h
    refine List.nodup_append.2 ⟨hn, by simp, ?_⟩; intro a ha b hb e; rw [List.mem_singleton.1 hb] at e; exact h (by rw [← e]; exact ha)
theorem pdel_keys (rows : List (Int × α)) (k : Int) : (pdel rows k).map Prod.fst = (rows.map Prod.fst).erase k := by
  induction rows with
  | nil => rfl
  | cons p r ih =>
    obtain ⟨a, x⟩ := p; unfold pdel
    by_cases h : k = a
    · subst h; simp
    · rw [if_neg h, List.map_cons, ih, List.map_cons, List.erase_cons_tail (by simpa using fun e => h e.symm)]
theorem pdel_nodup {rows : List (Int × α)} (hn : (rows.map Prod.fst).Nodup) (k : Int) : ((pdel rows k).map Prod.fst).Nodup := by
  rw [pdel_keys]; exact hn.erase k
theorem pget_put (rows : List (Int × α)) (k : Int) (v : α) (k' : Int) : pget (pput rows k v) k' = if k' = k then some v else pget rows k' := by
  induction rows with
  | nil => simp [pput, pget]
  | cons p r ih =>
    obtain ⟨a, u⟩ := p; unfold pput
    by_cases h : k = a
    · subst h; rw [if_pos rfl]; unfold pget
      by_cases h2 : k' = k <;> simp [h2]
    · rw [if_neg h]; unfold pget; rw [ih]
      by_cases h2 : k' = a
      · subst h2; rw [if_pos rfl, if_pos rfl, if_neg (fun e => h e.symm)]
      · simp [h2]
theorem pget_del {rows : List (Int × α)} (hn : (rows.map Prod.fst).Nodup) (k k' : Int) : pget (pdel rows k) k' = if k' = k then none else pget rows k' := by
  induction rows with
  | nil => simp [pdel, pget]
  | cons p r ih =>
    obtain ⟨a, u⟩ := p; rw [List.map_cons, List.nodup_cons] at hn; unfold pdel
    by_cases h : k = a
    · subst h; rw [if_pos rfl]
      by_cases h2 : k' = k
      · rw [if_pos h2, h2, pget_none]; exact hn.1
      · rw [if_neg h2]
        conv => rhs; unfold pget
        rw [if_neg h2]
    · rw [if_neg h]; unfold pget; rw [ih hn.2]
      by_cases h2 : k' = a
      · subst h2; rw [if_pos rfl, if_pos rfl, if_neg (fun e => h e.symm)]
      · simp [h2]
theorem pget_some {rows : List (Int × α)} (hn : (rows.map Prod.fst).Nodup) {k : Int} {u : α} (h : (k, u) ∈ rows) : pget rows k = some u := by
  induction rows with
  | nil => cases h
  | cons p r ih =>
    obtain ⟨a, x⟩ := p; rw [List.map_cons, List.nodup_cons] at hn; unfold pget
    rcases List.mem_cons.1 h with e | h2
    · cases e; rw [if_pos rfl]
    · have hne : k ≠ a := fun e => hn.1 (by rw [← e]; exact List.mem_map.2 ⟨(k, u), h2, rfl⟩)
      rw [if_neg hne]; exact ih hn.2 h2
end
open Go.WideElems Go.Maps in
theorem MapR.owns {kt : TypeId} {b : Nat} {o : Obj} {rows : List (Int × Value)} (hk : P.underlying kt = some (.int .i64)) (hb : w.heap[b]? = some o) (hr : MapR kI o rows) (hn : (rows.map Prod.fst).Nodup) (hw : ∀ r ∈ rows, (Lit.int .i64 r.1).wf = true) (hs : rows.length ≤ maxLen) :
    ∃ D : DataW Unit, w.ownsMap P kt (fun _ => some (.nil, [])) b rows.length D ∧ (intKeys D).Perm (rows.map Prod.fst) ∧ Maps.size D = rows.length := by
  obtain ⟨es, clock, rfl, h1, h2, h3⟩ := hr
  have hko : ∀ n : Int, (Lit.int .i64 n).wf = true → keyOf P kt (kI n) = some (.int .i64 n) := fun n h => by simp [keyOf, hk, mapKey, kI, h]
  have key : ∀ (es : List MapEntry) (rows : List (Int × Value)), MRel kI es rows → (∀ r ∈ rows, (Lit.int .i64 r.1).wf = true) →
      es.map (rg (H := Unit) P kt (fun _ => some (.nil, []))) = rows.map (fun r => (Lit.int .i64 r.1, DataW.nil)) ∧ (∀ x ∈ es, ∃ y, rd (H := Unit) P kt (fun _ => some (.nil, [])) x = some y) ∧ es.map (·.key) = rows.map (fun r => kI r.1) := by
    intro es
    induction es with
    | nil => intro rows h _; cases rows with
      | nil => exact ⟨rfl, by simp, rfl⟩
      | cons p r => cases h
    | cons e es ih => intro rows h hw; cases rows with
      | nil => cases h
      | cons p r =>
        obtain ⟨a, x⟩ := p; unfold MRel at h
        simp only [List.map_cons, List.cons.injEq, Prod.mk.injEq] at h
        obtain ⟨i1, i2, i3⟩ := ih r h.2 (fun q hq => hw q (List.mem_cons_of_mem _ hq))
        have hrd : rd (H := Unit) P kt (fun _ => some (.nil, [])) e = some (Lit.int .i64 a, DataW.nil) := by
          unfold rd; rw [h.1.1, hko a (hw (a, x) (List.mem_cons_self ..))]
          rfl
        refine ⟨?_, ?_, ?_⟩
        · rw [List.map_cons, List.map_cons, i1, rg_of hrd]
        · intro y hy
          rcases List.mem_cons.1 hy with rfl | hy
          · exact ⟨_, hrd⟩
          · exact i2 y hy
        · rw [List.map_cons, List.map_cons, i3, h.1.1]
  obtain ⟨k1, k2, k3⟩ := key es.toList rows h1 hw
  have hz : es.size = rows.length := by have := congrArg List.length h1; simpa using this
  refine ⟨.map ((es.toList.map (rg P kt (fun _ => some (.nil, [])))).foldr DataW.insert []), ⟨es, clock, hb, ⟨by omega, ⟨h2, h3, ?_⟩, k2⟩, by omega, rfl⟩, ?_, ?_⟩
  · rw [k3]
    have : rows.map (fun r => kI r.1) = (rows.map Prod.fst).map kI := by rw [List.map_map]; rfl
    rw [this]; exact List.pairwise_map.2 (List.Pairwise.imp (fun {a b} hne e => hne (by simpa [kI] using e)) hn)
  · rw [k1]
    show ((((rows.map fun r => (Lit.int .i64 r.1, DataW.nil)).foldr DataW.insert []).map fun p : Lit × DataW Unit => Go.intOf p.1)).Perm _
    refine ((WideShapes.sorted_perm _).map _).trans ?_; rw [List.map_map]; exact List.Perm.refl _
  · rw [k1]
    show ((rows.map fun r => (Lit.int .i64 r.1, DataW.nil)).foldr DataW.insert []).length = _
    rw [length_sorted, List.length_map]
theorem St.belowAll {w' : World} (h : St w0 w I L) (hb : Below w.heap.size w w') : St w0 w' I L :=
  ⟨hb.os.trans h.os, hb.tape.trans h.tape, hb.output.trans h.out, fun b o hi => (hb.block b (h.lt hi)).trans (h.imm b o hi), fun p hp => (hb.block p.1 (h.lt_own hp)).trans (h.own p hp), h.sep, h.nd⟩
theorem St.ownsRow {w' : World} {e : TypeId} {v : Value} {n size : Nat} {xs : List Value} (h : St w0 w I L) (hb : Below w.heap.size w w') (ho : w'.ownsRow w.heap.size e size v n xs) (hone : ∀ u ∈ xs, u.oneCell' = true) : ∃ Lv, St w0 w' I (Lv ++ L) ∧ Grow e size v n xs Lv := by
  obtain ⟨h1, ⟨rfl, rfl⟩ | ⟨g, cap, cur, rfl, hg, hh, h2, h3, h4, h5⟩⟩ := ho
  · exact ⟨[], h.belowAll hb, h1, hone, .inl ⟨rfl, rfl, rfl⟩⟩
  · exact ⟨[(g, .cells cur e)], h.cons_new ⟨hb.os, hb.tape, hb.output, hb.size, fun k hk _ => hb.block k hk⟩ hg hh, h1, hone, .inr ⟨g, cap, cur, rfl, rfl, h2, h3, h4, h5⟩⟩
end Go.Proofs.YtadgbifmiooikaaX
namespace Go.Proofs.YtadgbifmiooikaaX
set_option linter.unusedVariables false
open Go Go.RowKit
variable {P : Program} {N : Nat} {ops : Array Oper} {F : World → Prop} {Qn : Act → World → Prop} {plan : Plan} {l : Env} {w : World}
theorem DRW.call_on {i d g t : Nat} {f : FuncId} {fo : Operand} {args : List Operand} {ats : Array TypeId} {ty : TypeId} {pos : String} {after : Array Edge} {vs : List Value} {R : Ending → World → Prop} {want b : Bool}
    (ho : ops[i]? = some ⟨some d, .call ⟨.value fo, args.toArray, ats⟩, ty, pos, after, some (g, want)⟩) (ht : (ops[g]?).bind (·.dst) = some t) (hv : l.get t = some (.bool b)) (htN : Nat.blt t N = true) (hb : b = want) (hd : Nat.blt d N = true) (hf : Callable P f) (hfo : ev l fo = some (.func (.func f) #[] #[])) (ha : evs l args = some vs) (hc : Calls P f vs.toArray w R)
    (h : ∀ e w', R e w' → ∃ v, e = .returned v ∧ F w' ∧ DRW P N ops F Qn plan ((d, v) :: l) w') : DRW P N ops F Qn (.l i plan) l w := fun a hon => by
  refine ⟨_, ho, ?_⟩; rw [if_pos (by rw [wanted_of hon rfl ht hv htN, hb]; exact beq_self_eq_true _)]; unfold Oper.wp; rw [runs_call hf hfo ha a.eval (fun x v => ev_on hon) (some d) pos after _]
  refine hc.mono fun e w' he => ?_
  obtain ⟨v, rfl, h1, h2⟩ := h e w' he; exact ⟨h1, h2 _ (Env.on_put hd hon)⟩
theorem DRW.l_off {i d g t : Nat} {o : Op} {ty : TypeId} {pos : String} {after : Array Edge} {want b : Bool} (ho : ops[i]? = some ⟨some d, o, ty, pos, after, some (g, want)⟩) (ht : (ops[g]?).bind (·.dst) = some t) (hv : l.get t = some (.bool b)) (htN : Nat.blt t N = true) (hb : b = !want) (hd : Nat.blt d N = true)
    (h : DRW P N ops F Qn plan ((d, undef) :: l) w) : DRW P N ops F Qn (.l i plan) l w := fun a ha => by
  refine ⟨_, ho, ?_⟩; rw [if_neg (by rw [wanted_of ha rfl ht hv htN, hb]; cases want <;> decide)]; exact h _ (Env.on_put hd ha)
end Go.Proofs.YtadgbifmiooikaaX
namespace Go.Proofs.YtadgbifmiooikaaX
set_option linter.unusedVariables false
open Go Go.RowKit
section
variable {P : Program} {ops : Array Oper} {md : Region.Mode}
def PV (P : Program) (ops : Array Oper) (Q : Act → World → Prop) : Plan → (World → Prop) → Act → World → Prop
  | .nil, _, a, w => Q a w
  | .q i r, F, a, w => ∃ o v, ops[i]? = some o ∧ YieldsF P ops F o v a ∧ PV P ops Q r F (a.put o.dst v) w
  | .l i r, F, a, w => ∃ o, ops[i]? = some o ∧ if Region.wanted o (yielded ops a.tmps) then o.wp P a w (fun a' w' => ∃ F' : World → Prop, (∀ w, F' w → F w) ∧ F' w' ∧ PV P ops Q r F' a' w') (onlyN Q) else PV P ops Q r F (a.put o.dst undef) w
  | .fork p q, F, a, w => PV P ops Q p F a w ∧ PV P ops Q q F a w
theorem PV.heads {F : World → Prop} {Q : Act → World → Prop} {a : Act} {w : World} : ∀ {p : Plan}, PV P ops Q p F a w → ∀ x ∈ p.heads, PV P ops Q (.l x.1 x.2) F a w
  | .nil, _, x, hx => by simp [Plan.heads] at hx
  | .q i p, _, x, hx => by simp [Plan.heads] at hx
  | .l i p, h, x, hx => by
    simp only [Plan.heads, List.mem_singleton] at hx
    subst hx; exact h
  | .fork p q, h, x, hx => by
    simp only [Plan.heads, List.mem_append] at hx
    exact hx.elim (PV.heads h.1 x) (PV.heads h.2 x)
end
def DRV (P : Program) (N : Nat) (ops : Array Oper) (F : World → Prop) (Q : Act → World → Prop) (plan : Plan) (l : Env) (w : World) : Prop := ∀ a, l.on N a → PV P ops Q plan F a w
section
variable {P : Program} {N : Nat} {ops : Array Oper} {F : World → Prop} {Q : Exit → Act → World → Prop} {Qn : Act → World → Prop} {plan : Plan} {l : Env} {w : World}
theorem DRV.done (h : AQ N Q .normal l w) : DRV P N ops F (fun a w => Q .normal a w) .nil l w := fun a ha => h a ha
theorem DRV.fork {p q : Plan} (h1 : DRV P N ops F Qn p l w) (h2 : DRV P N ops F Qn q l w) : DRV P N ops F Qn (.fork p q) l w := fun a ha => ⟨h1 a ha, h2 a ha⟩
theorem DRV.q {i d : Nat} {o : Op} {ty : TypeId} {pos : String} {after : Array Edge} {v : Value} (ho : ops[i]? = some ⟨some d, o, ty, pos, after, none⟩) (hd : Nat.blt d N = true)
    (hr : ∀ w', F w' → Runs P o ty l w' (.value v) w') (h : DRV P N ops F Qn plan ((d, v) :: l) w) : DRV P N ops F Qn (.q i plan) l w := fun a ha =>
  ⟨_, v, ho, .inl ⟨rfl, fun w' hw' => hr w' hw' a.eval (fun x v => ev_on ha) (some d) pos after none⟩, h _ (Env.on_put hd ha)⟩
theorem DRV.q_on {i d g t : Nat} {o : Op} {ty : TypeId} {pos : String} {after : Array Edge} {v : Value} {want b : Bool} (ho : ops[i]? = some ⟨some d, o, ty, pos, after, some (g, want)⟩) (ht : (ops[g]?).bind (·.dst) = some t) (hv : l.get t = some (.bool b)) (htN : Nat.blt t N = true) (hb : b = want) (hd : Nat.blt d N = true)
    (hr : ∀ w', F w' → Runs P o ty l w' (.value v) w') (h : DRV P N ops F Qn plan ((d, v) :: l) w) : DRV P N ops F Qn (.q i plan) l w := fun a ha =>
  ⟨_, v, ho, .inl ⟨by rw [wanted_of ha rfl ht hv htN, hb]; exact beq_self_eq_true _, fun w' hw' => hr w' hw' a.eval (fun x v => ev_on ha) (some d) pos after _⟩, h _ (Env.on_put hd ha)⟩
theorem DRV.q_off {i d g t : Nat} {o : Op} {ty : TypeId} {pos : String} {after : Array Edge} {want b : Bool} (ho : ops[i]? = some ⟨some d, o, ty, pos, after, some (g, want)⟩) (ht : (ops[g]?).bind (·.dst) = some t) (hv : l.get t = some (.bool b)) (htN : Nat.blt t N = true) (hb : b = !want) (hd : Nat.blt d N = true)
    (h : DRV P N ops F Qn plan ((d, undef) :: l) w) : DRV P N ops F Qn (.q i plan) l w := fun a ha =>
  ⟨_, undef, ho, .inr ⟨by rw [wanted_of ha rfl ht hv htN, hb]; cases want <;> rfl, rfl⟩, h _ (Env.on_put hd ha)⟩
theorem DRV.split {t : Nat} {b : Bool} (hv : l.get t = some (.bool b)) (h1 : b = true → DRV P N ops F Qn plan l w) (h2 : b = false → DRV P N ops F Qn plan l w) : DRV P N ops F Qn plan l w := by
  cases b
  · exact h2 rfl
  · exact h1 rfl
theorem DRV.opE {i d : Nat} {o : Op} {ty : TypeId} {pos : String} {after : Array Edge} {Φ : Value → World → Prop} (ho : ops[i]? = some ⟨some d, o, ty, pos, after, none⟩) (hd : Nat.blt d N = true)
    (hr : ∃ v w', Runs P o ty l w (.value v) w' ∧ Φ v w') (h : ∀ v w', Φ v w' → ∃ F' : World → Prop, (∀ w, F' w → F w) ∧ F' w' ∧ DRV P N ops F' Qn plan ((d, v) :: l) w') : DRV P N ops F Qn (.l i plan) l w := fun a ha => by
  obtain ⟨v, w', h1, h2⟩ := hr; obtain ⟨F', h0, h3, h4⟩ := h v w' h2; refine ⟨_, ho, ?_⟩; rw [if_pos (by rfl)]; unfold Oper.wp; rw [h1 a.eval (fun x v => ev_on ha) (some d) pos after none]; exact ⟨F', h0, h3, h4 _ (Env.on_put hd ha)⟩
theorem DRV.op1 {i d : Nat} {o : Op} {ty : TypeId} {pos : String} {after : Array Edge} {v : Value} {w' : World} (ho : ops[i]? = some ⟨some d, o, ty, pos, after, none⟩) (hd : Nat.blt d N = true)
    (hr : Runs P o ty l w (.value v) w') (hF : F w') (h : DRV P N ops F Qn plan ((d, v) :: l) w') : DRV P N ops F Qn (.l i plan) l w :=
  DRV.opE (Φ := fun u w'' => u = v ∧ w'' = w') ho hd ⟨v, w', hr, rfl, rfl⟩ fun _ _ ⟨e1, e2⟩ => by subst e1; subst e2; exact ⟨F, fun _ h => h, hF, h⟩
theorem DRV.opE0 {i : Nat} {o : Op} {ty : TypeId} {pos : String} {after : Array Edge} {Φ : World → Prop} (ho : ops[i]? = some ⟨none, o, ty, pos, after, none⟩)
    (hr : ∃ w', Runs P o ty l w .skip w' ∧ Φ w') (h : ∀ w', Φ w' → ∃ F' : World → Prop, (∀ w, F' w → F w) ∧ F' w' ∧ DRV P N ops F' Qn plan l w') : DRV P N ops F Qn (.l i plan) l w := fun a ha => by
  obtain ⟨w', h1, h2⟩ := hr; obtain ⟨F', h0, h3, h4⟩ := h w' h2; refine ⟨_, ho, ?_⟩; rw [if_pos (by rfl)]; unfold Oper.wp; rw [h1 a.eval (fun x v => ev_on ha) none pos after none]; exact ⟨F', h0, h3, h4 _ ha⟩
theorem DRV.call {i d : Nat} {f : FuncId} {fo : Operand} {args : List Operand} {ats : Array TypeId} {ty : TypeId} {pos : String} {after : Array Edge} {vs : List Value} {R : Ending → World → Prop}
    (ho : ops[i]? = some ⟨some d, .call ⟨.value fo, args.toArray, ats⟩, ty, pos, after, none⟩) (hd : Nat.blt d N = true) (hf : Callable P f) (hfo : ev l fo = some (.func (.func f) #[] #[])) (ha : evs l args = some vs) (hc : Calls P f vs.toArray w R)
    (h : ∀ e w', R e w' → ∃ v, e = .returned v ∧ ∃ F' : World → Prop, (∀ w, F' w → F w) ∧ F' w' ∧ DRV P N ops F' Qn plan ((d, v) :: l) w') : DRV P N ops F Qn (.l i plan) l w := fun a hon => by
  refine ⟨_, ho, ?_⟩; rw [if_pos (by rfl)]; unfold Oper.wp; rw [runs_call hf hfo ha a.eval (fun x v => ev_on hon) (some d) pos after none]
  refine hc.mono fun e w' he => ?_
  obtain ⟨v, rfl, F', h0, h1, h2⟩ := h e w' he; exact ⟨F', h0, h1, h2 _ (Env.on_put hd hon)⟩
theorem DRV.call_on {i d g t : Nat} {f : FuncId} {fo : Operand} {args : List Operand} {ats : Array TypeId} {ty : TypeId} {pos : String} {after : Array Edge} {vs : List Value} {R : Ending → World → Prop} {want b : Bool}
    (ho : ops[i]? = some ⟨some d, .call ⟨.value fo, args.toArray, ats⟩, ty, pos, after, some (g, want)⟩) (ht : (ops[g]?).bind (·.dst) = some t) (hv : l.get t = some (.bool b)) (htN : Nat.blt t N = true) (hb : b = want) (hd : Nat.blt d N = true) (hf : Callable P f) (hfo : ev l fo = some (.func (.func f) #[] #[])) (ha : evs l args = some vs) (hc : Calls P f vs.toArray w R)
    (h : ∀ e w', R e w' → ∃ v, e = .returned v ∧ ∃ F' : World → Prop, (∀ w, F' w → F w) ∧ F' w' ∧ DRV P N ops F' Qn plan ((d, v) :: l) w') : DRV P N ops F Qn (.l i plan) l w := fun a hon => by
  refine ⟨_, ho, ?_⟩; rw [if_pos (by rw [wanted_of hon rfl ht hv htN, hb]; exact beq_self_eq_true _)]; unfold Oper.wp; rw [runs_call hf hfo ha a.eval (fun x v => ev_on hon) (some d) pos after _]
  refine hc.mono fun e w' he => ?_
  obtain ⟨v, rfl, F', h0, h1, h2⟩ := h e w' he; exact ⟨F', h0, h1, h2 _ (Env.on_put hd hon)⟩
theorem DRV.l_off {i d g t : Nat} {o : Op} {ty : TypeId} {pos : String} {after : Array Edge} {want b : Bool} (ho : ops[i]? = some ⟨some d, o, ty, pos, after, some (g, want)⟩) (ht : (ops[g]?).bind (·.dst) = some t) (hv : l.get t = some (.bool b)) (htN : Nat.blt t N = true) (hb : b = !want) (hd : Nat.blt d N = true)
    (h : DRV P N ops F Qn plan ((d, undef) :: l) w) : DRV P N ops F Qn (.l i plan) l w := fun a ha => by
  refine ⟨_, ho, ?_⟩; rw [if_neg (by rw [wanted_of ha rfl ht hv htN, hb]; cases want <;> decide)]; exact h _ (Env.on_put hd ha)
end
end Go.Proofs.YtadgbifmiooikaaX
namespace Go.Proofs.YtadgbifmiooikaaX
open Go
def i64ok (n : Int) : Prop := -9223372036854775808 ≤ n ∧ n ≤ 9223372036854775807
def mayM (e s : Int) : Bool := decide (0 ≤ e) && (decide (e < 65536) && (decide (0 ≤ s) && decide (s < 16777216)))
def two (e : Int) : List UInt8 := [u8 (e / 2 ^ 8), u8 e]
def three (s : Int) : List UInt8 := [u8 (s / 2 ^ 16), u8 (s / 2 ^ 8), u8 s]
theorem two_length (e : Int) : (two e).length = 2 := rfl
theorem three_length (s : Int) : (three s).length = 3 := rfl
theorem beqB (a b : List UInt8) : (a == b) = decide (a = b) := by rw [Bool.eq_iff_iff]; simp
def sealB (e s p n : Int) (b : List UInt8) : List UInt8 :=
  two e ++ three s ++ [u8 p, u8 n, u8 b.length] ++ b ++ List.replicate (19 - b.length) 0 ++ three s ++ two e
def sealM (e s p n : Int) (b : List UInt8) : Bool := mayM e s && decide (0 ≤ p) && decide (p < n) && decide (n ≤ 255) && decide (b.length ≤ 19)
end Go.Proofs.YtadgbifmiooikaaX
namespace Go.Proofs.YtadgbifmiooikaaX
set_option linter.unusedVariables false
set_option linter.unusedSimpArgs false
open Go Go.RowKit Go.Proofs
set_option maxRecDepth 100000 in
set_option maxHeartbeats 1000000 in
theorem clone_spec {w0 w : World} {I : Imm} {L : Own} (hst : St w0 w I L) {v : Value} {bs : List UInt8} (hv : RdB I v bs) (hb : bs.length ≤ 140737488355328) :
    Calls Try.prog 43 #[v] w fun e w' => ∃ I' v', Imm.le I I' ∧ e = .returned v' ∧ St w0 w' I' L ∧ RdB I' v' (bs) := by
  have hv0 := hv; obtain ⟨h1, h2, A, cap, rfl, h3, h4⟩ := hv0; refine enter Try.func43 rfl (N := 8) rfl rfl ?_
  simp only [List.zipIdx_cons, List.zipIdx_nil, List.map_cons, List.map_nil, Nat.zero_add, Nat.reduceAdd]
  have hle := Imm.le.refl I; refine CW.seq ?_; refine CW.region ?_; refine RW.op1 rfl (runs_assign rfl) ?_; refine RW.done ?_; refine AQ.next ?_; refine CW.seq ?_; refine CW.seq ?_; refine CW.region ?_; refine RW.op1 rfl (runs_move rfl) ?_; refine RW.op1 rfl (runs_eq_nilslice Try.underlying60 rfl) ?_; refine RW.done ?_; refine AQ.next ?_; refine CW.cond rfl (fun hc4 => ?_) (fun hc4 => ?_)
  · have hcb4 := hc4; try simp only [decide_eq_true_eq, decide_eq_false_iff_not] at hc4
    refine CW.seq ?_; refine CW.region ?_; refine RW.op1 rfl (runs_assign rfl) ?_; refine RW.done ?_; refine AQ.next ?_; refine CW.ret ?_; refine AQ.past_ret ?_; refine AQ.ret1 rfl rfl ?_
    exact ⟨_, _, Imm.le.refl _, rfl, hst, by
      have : A = none := by simpa using hcb4
      subst this
      have h0 : bs = [] := by
        cases bs with
        | nil => rfl
        | cons c r => obtain ⟨a, h, _⟩ := h4 0 (b8 c) (by simp); cases h
      subst h0
      exact RdL.nil 1⟩
  · have hcb4 := hc4; try simp only [decide_eq_true_eq, decide_eq_false_iff_not] at hc4
    refine CW.skip ?_; refine AQ.next ?_; refine CW.seq ?_; refine CW.region ?_; refine RW.opE rfl (runs_litB0 Try.underlying60 ti5 hst) ?_; rintro u1 w ⟨Lv1, hstn, hg1⟩; clear hst; have hst := hstn; clear hstn; refine RW.op1 rfl (runs_move rfl) ?_; refine RW.opE rfl (runs_appendB Try.underlying60 ti5 rfl rfl hst (by assumption) (by assumption) (by (try simp) <;> omega)) ?_; rintro u2 w ⟨Lv2, hstn, hg2⟩; clear hst; have hst := hstn; clear hstn; refine RW.op1 rfl (runs_assign rfl) ?_; refine RW.done ?_; refine AQ.next ?_; refine CW.ret ?_; refine AQ.ret1 rfl rfl ?_; obtain ⟨I', hI, hst, hr⟩ := GrowB.freeze hg2 hst; exact ⟨I', _, hI, rfl, hst, hr⟩
set_option maxRecDepth 100000 in
set_option maxHeartbeats 1000000 in
theorem may_spec {w0 w : World} {I : Imm} {L : Own} (hst : St w0 w I L) (e s : Int) :
    Calls Try.prog 60 #[.agg #[.int .i64 e, .int .i64 s]] w fun r w' => r = .returned (.bool (mayM e s)) ∧ St w0 w' I L := by
  refine enter Try.func60 rfl (N := 21) rfl rfl ?_
  simp only [List.zipIdx_cons, List.zipIdx_nil, List.map_cons, List.map_nil, Nat.zero_add, Nat.reduceAdd]
  have hle := Imm.le.refl I; refine CW.seq ?_; refine CW.region ?_; refine RW.opE rfl (runs_box rfl hst) ?_; rintro _ w ⟨b1, rfl, hstn⟩; clear hst; have hst := hstn; clear hstn; refine RW.op1 rfl (runs_assign rfl) ?_; refine RW.done ?_; refine AQ.next ?_; refine CW.seq ?_; refine CW.region ?_
  refine RW.op1 rfl (runs_fieldAddr0 rfl Try.underlying97 rfl ti3 (by decide)) ?_
  refine RW.op1 rfl (runs_load1 sc3 rfl (hst.cell_own (k := 0) rfl rfl)) ?_
  refine RW.op1 rfl (runs_geq rfl rfl) ?_; refine RW.op1 rfl (runs_move rfl) ?_; refine RW.split (t := 6) rfl (fun hb6 => ?_) (fun hb6 => ?_)
  · have hb6p := hb6; try simp only [decide_eq_true_eq, decide_eq_false_iff_not] at hb6p
    refine RW.on_guard rfl rfl rfl rfl hb6 ?_
    refine RW.op1 rfl (runs_fieldAddr0 rfl Try.underlying97 rfl ti3 (by decide)) ?_
    refine RW.on_guard rfl rfl rfl rfl hb6 ?_
    refine RW.op1 rfl (runs_load1 sc3 rfl (hst.cell_own (k := 0) rfl rfl)) ?_
    refine RW.on_guard rfl rfl rfl rfl hb6 ?_; refine RW.op1 rfl (runs_lss rfl rfl) ?_; refine RW.op1 rfl (runs_pick_true rfl hb6 rfl) ?_; refine RW.op1 rfl (runs_move rfl) ?_; refine RW.split (t := 11) rfl (fun hb11 => ?_) (fun hb11 => ?_)
    · have hb11p := hb11; try simp only [decide_eq_true_eq, decide_eq_false_iff_not] at hb11p
      refine RW.on_guard rfl rfl rfl rfl hb11 ?_
      refine RW.op1 rfl (runs_fieldAddr0 rfl Try.underlying97 rfl ti3 (by decide)) ?_
      refine RW.on_guard rfl rfl rfl rfl hb11 ?_
      refine RW.op1 rfl (runs_load1 sc3 rfl (hst.cell_own (k := 0) rfl rfl)) ?_
      refine RW.on_guard rfl rfl rfl rfl hb11 ?_; refine RW.op1 rfl (runs_geq rfl rfl) ?_; refine RW.op1 rfl (runs_pick_true rfl hb11 rfl) ?_; refine RW.op1 rfl (runs_move rfl) ?_; refine RW.split (t := 16) rfl (fun hb16 => ?_) (fun hb16 => ?_)
      · have hb16p := hb16; try simp only [decide_eq_true_eq, decide_eq_false_iff_not] at hb16p
        refine RW.on_guard rfl rfl rfl rfl hb16 ?_
        refine RW.op1 rfl (runs_fieldAddr0 rfl Try.underlying97 rfl ti3 (by decide)) ?_
        refine RW.on_guard rfl rfl rfl rfl hb16 ?_
        refine RW.op1 rfl (runs_load1 sc3 rfl (hst.cell_own (k := 0) rfl rfl)) ?_
        refine RW.on_guard rfl rfl rfl rfl hb16 ?_; refine RW.op1 rfl (runs_lss rfl rfl) ?_; refine RW.op1 rfl (runs_pick_true rfl hb16 rfl) ?_; refine RW.op1 rfl (runs_assign rfl) ?_; refine RW.done ?_; refine AQ.next ?_; refine CW.ret ?_; refine AQ.ret1 rfl rfl ?_; exact ⟨by unfold mayM; simp_all <;> omega, hst.drop1⟩
      · have hb16p := hb16; try simp only [decide_eq_true_eq, decide_eq_false_iff_not] at hb16p
        refine RW.off_guard rfl rfl rfl rfl hb16 ?_; refine RW.off_guard rfl rfl rfl rfl hb16 ?_; refine RW.off_guard rfl rfl rfl rfl hb16 ?_; refine RW.op1 rfl (runs_pick_false rfl hb16 rfl) ?_; refine RW.op1 rfl (runs_assign rfl) ?_; refine RW.done ?_; refine AQ.next ?_; refine CW.ret ?_; refine AQ.ret1 rfl rfl ?_; exact ⟨by unfold mayM; simp_all <;> omega, hst.drop1⟩
    · have hb11p := hb11; try simp only [decide_eq_true_eq, decide_eq_false_iff_not] at hb11p
      refine RW.off_guard rfl rfl rfl rfl hb11 ?_; refine RW.off_guard rfl rfl rfl rfl hb11 ?_; refine RW.off_guard rfl rfl rfl rfl hb11 ?_; refine RW.op1 rfl (runs_pick_false rfl hb11 rfl) ?_; refine RW.op1 rfl (runs_move rfl) ?_; refine RW.off_guard rfl rfl rfl rfl rfl ?_; refine RW.off_guard rfl rfl rfl rfl rfl ?_; refine RW.off_guard rfl rfl rfl rfl rfl ?_; refine RW.op1 rfl (runs_pick_false rfl rfl rfl) ?_; refine RW.op1 rfl (runs_assign rfl) ?_; refine RW.done ?_; refine AQ.next ?_; refine CW.ret ?_; refine AQ.ret1 rfl rfl ?_; exact ⟨by unfold mayM; simp_all <;> omega, hst.drop1⟩
  · have hb6p := hb6; try simp only [decide_eq_true_eq, decide_eq_false_iff_not] at hb6p
    refine RW.off_guard rfl rfl rfl rfl hb6 ?_; refine RW.off_guard rfl rfl rfl rfl hb6 ?_; refine RW.off_guard rfl rfl rfl rfl hb6 ?_; refine RW.op1 rfl (runs_pick_false rfl hb6 rfl) ?_; refine RW.op1 rfl (runs_move rfl) ?_; refine RW.off_guard rfl rfl rfl rfl rfl ?_; refine RW.off_guard rfl rfl rfl rfl rfl ?_; refine RW.off_guard rfl rfl rfl rfl rfl ?_; refine RW.op1 rfl (runs_pick_false rfl rfl rfl) ?_; refine RW.op1 rfl (runs_move rfl) ?_; refine RW.off_guard rfl rfl rfl rfl rfl ?_; refine RW.off_guard rfl rfl rfl rfl rfl ?_; refine RW.off_guard rfl rfl rfl rfl rfl ?_; refine RW.op1 rfl (runs_pick_false rfl rfl rfl) ?_; refine RW.op1 rfl (runs_assign rfl) ?_; refine RW.done ?_; refine AQ.next ?_; refine CW.ret ?_; refine AQ.ret1 rfl rfl ?_; exact ⟨by unfold mayM; simp_all <;> omega, hst.drop1⟩
end Go.Proofs.YtadgbifmiooikaaX
namespace Go.Proofs.YtadgbifmiooikaaX
set_option linter.unusedVariables false
set_option linter.unusedSimpArgs false
open Go Go.RowKit Go.Proofs
abbrev HRow := ByteArray × ByteArray
def hrow (r : HRow) : List Value := [.string r.1, .string r.2]
theorem hrow_len (r : HRow) : (hrow r).length = 2 := rfl
def RdH (I : Imm) (v : Value) (hs : List HRow) : Prop := RdL I 2 v hs.length (hs.flatMap hrow)
theorem hrow_at {rows : List HRow} {k : Nat} {r : HRow} (hr : rows[k]? = some r) : ∀ (j : Nat) (u : Value), (hrow r)[j]? = some u → (rows.flatMap hrow)[(k : Int).toNat * 2 + j]? = some u := by
  intro j u hj; have hj5 : j < 2 := (List.getElem?_eq_some_iff.1 hj).1; rw [Int.toNat_natCast, getElem?_flat hrow_len rows k j hj5, hr]; exact hj
end Go.Proofs.YtadgbifmiooikaaX
namespace Go.Proofs.YtadgbifmiooikaaX
set_option linter.unusedVariables false
set_option linter.unusedSimpArgs false
open Go Go.RowKit
variable {w0 w : World} {I : Imm} {L : Own} {P : Program} {l : Env} {ty : TypeId}
theorem perm_two2 {α : Type} (x y : α) (A B : List α) : (x :: y :: (A ++ B)).Perm (A ++ (x :: y :: B)) := ((List.perm_middle (l₁ := A) (a := y) (l₂ := B)).symm.cons x).trans List.perm_middle.symm
theorem boolN {b : Bool} {P : Prop} [Decidable P] (h : b = true ↔ P) : some (Value.bool b) = some (Value.bool (decide P)) := by
  congr 2
  by_cases hp : P
  · rw [decide_eq_true hp]; exact h.2 hp
  · rw [decide_eq_false hp]; cases b with
    | false => rfl
    | true => exact absurd (h.1 rfl) hp
end Go.Proofs.YtadgbifmiooikaaX
