/- Maps of the walk's own: made, looked up, written; keys that are numbers, or structs of numbers. Own lemmas, no program in sight. -/
import Derived.Test.YtlmmpcdjkpibcaaXC
import Derived.MapKept
namespace Go.Proofs.YtlmmpcdjkpibcaaX
set_option linter.unusedVariables false
set_option linter.unusedSimpArgs false
open Go Go.RowKit
variable {w0 w : World} {I : Imm} {L : Own} {P : Program} {l : Env} {ty : TypeId} {N : Nat}

section
variable {κ : Type} [DecidableEq κ]
def mfind : List (κ × Value) → κ → Nat → Option (Nat × Value)
  | [], _, _ => none
  | (a, u) :: r, k, i => if k = a then some (i, u) else mfind r k (i + 1)
def mget : List (κ × Value) → κ → Option Value
  | [], _ => none
  | (a, u) :: r, k => if k = a then some u else mget r k
def mput : List (κ × Value) → κ → Value → List (κ × Value)
  | [], k, v => [(k, v)]
  | (a, u) :: r, k, v => if k = a then (a, v) :: r else (a, u) :: mput r k v
theorem mget_put (rows : List (κ × Value)) (k : κ) (v : Value) (k' : κ) : mget (mput rows k v) k' = if k' = k then some v else mget rows k' := by
  induction rows with
  | nil => simp [mput, mget]
  | cons p r ih =>
    obtain ⟨a, u⟩ := p
    unfold mput
    by_cases h : k = a
    · subst h
      rw [if_pos rfl]
      unfold mget
      by_cases h2 : k' = k <;> simp [h2]
    · rw [if_neg h]
      unfold mget
      rw [ih]
      by_cases h2 : k' = a
      · subst h2
        rw [if_pos rfl, if_pos rfl, if_neg (fun e => h e.symm)]
      · simp [h2]
theorem mfind_get : ∀ (rows : List (κ × Value)) (k : κ) (i : Nat), (mfind rows k i).map (·.2) = mget rows k
  | [], _, _ => rfl
  | (a, u) :: r, k, i => by
    unfold mfind mget
    split
    · rfl
    · exact mfind_get r k (i + 1)
theorem mfind_ge : ∀ (rows : List (κ × Value)) (k : κ) (i j : Nat) (u : Value), mfind rows k i = some (j, u) → i ≤ j
  | [], _, _, _, _, h => by cases h
  | (a, x) :: r, k, i, j, u, h => by
    unfold mfind at h
    split at h
    · cases h; exact Nat.le_refl _
    · have := mfind_ge r k (i + 1) j u h; omega
/-- How a map's entries read. -/
def MRel (enc : κ → Value) (es : List MapEntry) (rows : List (κ × Value)) : Prop := es.map (fun e => (e.key, e.val)) = rows.map fun r => (enc r.1, r.2)
theorem MRel.put {enc : κ → Value} {k : κ} {v : Value} : ∀ {es : List MapEntry} {rows : List (κ × Value)} (h : MRel enc es rows) (i j : Nat) (u : Value), mfind rows k i = some (j, u) → MRel enc (es.modify (j - i) fun e => { e with key := enc k, val := v }) (mput rows k v)
  | [], [], _, _, _, _, hf => by cases hf
  | [], _ :: _, h, _, _, _, _ => by cases h
  | _ :: _, [], h, _, _, _, _ => by cases h
  | e :: es, (a, x) :: r, h, i, j, u, hf => by
    unfold MRel at h
    simp only [List.map_cons, List.cons.injEq, Prod.mk.injEq] at h
    unfold mfind at hf
    by_cases hk : k = a
    · rw [if_pos hk] at hf
      cases hf
      subst hk
      unfold mput
      rw [if_pos rfl, Nat.sub_self]
      unfold MRel
      simp [h.2]
    · rw [if_neg hk] at hf
      have hge := mfind_ge r k (i + 1) j u hf
      have ih := MRel.put (v := v) h.2 (i + 1) j u hf
      unfold mput
      rw [if_neg hk, show j - i = (j - (i + 1)) + 1 by omega]
      unfold MRel at ih ⊢
      simp [ih, h.1]
theorem MRel.push {enc : κ → Value} {k : κ} {v : Value} {c : Nat} : ∀ {es : List MapEntry} {rows : List (κ × Value)} (h : MRel enc es rows) (i : Nat), mfind rows k i = none → MRel enc (es ++ [{ key := enc k, val := v, born := c }]) (mput rows k v)
  | [], [], _, _, _ => rfl
  | [], _ :: _, h, _, _ => by cases h
  | _ :: _, [], h, _, _ => by cases h
  | e :: es, (a, x) :: r, h, i, hf => by
    unfold MRel at h
    simp only [List.map_cons, List.cons.injEq, Prod.mk.injEq] at h
    unfold mfind at hf
    by_cases hk : k = a
    · rw [if_pos hk] at hf; cases hf
    · rw [if_neg hk] at hf
      have ih := MRel.push (v := v) (c := c) h.2 (i + 1) hf
      unfold mput
      rw [if_neg hk]
      unfold MRel at ih ⊢
      simp [ih, h.1]
/-- What is asked of a type of keys. -/
structure KeyL (P : Program) (kt : TypeId) (enc : κ → Value) : Prop where
  chk : ∀ (e : Bool) (k : κ) (w : World), (Instr.checkKey e 10000 kt (enc k)).run P w = .ok () w
  fnd : ∀ (w : World) (k : κ) (es : List MapEntry) (rows : List (κ × Value)), MRel enc es rows → (Instr.findKey kt (enc k) es).run P w = .ok (mfind rows k 0) w
  same : ∀ k, Instr.sameBits 10000 (enc k) (enc k) = true
/-- A map of one's own: how it reads. -/
def MapR (enc : κ → Value) (o : Obj) (rows : List (κ × Value)) : Prop := ∃ es clock, o = .map es clock ∧ MRel enc es.toList rows ∧ (∀ e ∈ es.toList, e.born < clock) ∧ (es.toList.map (·.born)).Nodup
omit [DecidableEq κ] in
theorem MapR.empty (enc : κ → Value) : MapR enc (.map #[] 0) [] := ⟨#[], 0, rfl, rfl, by simp, by simp⟩
theorem runs_makeMap {t : TypeId} (hst : St w0 w I L) :
    ∃ v w', Runs P (.makeMap t none) ty l w (.value v) w' ∧ ∃ b, v = .map (some b) ∧ St w0 w' I ((b, .map #[] 0) :: L) :=
  ⟨_, _, .of (fun _ => Instr.makeMap t none) (fun _ _ _ _ _ => rfl) fun ρ hρ => by
    simp [Instr.makeMap, go_sem, newObj]; rfl, _, rfl, hst.heap_new _⟩
theorem runs_lookup {enc : κ → Value} {t kt et : TypeId} {x y : Operand} {b i : Nat} {o : Obj} {rows : List (κ × Value)} {key : κ} {z : Value} {size bytes : Nat} (hK : KeyL P kt enc) (ht : P.underlying t = some (.map kt et)) (he : TI P et z size bytes)
    (hx : ev l x = some (.map (some b))) (hy : ev l y = some (enc key)) (hst : St w0 w I L) (hL : L[i]? = some (b, o)) (hr : MapR enc o rows) :
    Runs P (.lookup t x y false) ty l w (.value ((mget rows key).getD z)) w :=
  .of (fun ρ => Instr.lookup t (ρ x) (ρ y) false) (fun _ _ _ _ _ => rfl) fun ρ hρ => by
    obtain ⟨es, clock, rfl, h1, _, _⟩ := hr
    have hb : w.heap[b]? = some (.map es clock) := hst.own _ (List.mem_of_getElem? hL)
    simp only [hρ x _ hx, hρ y _ hy, Instr.lookup, Sem.run_bind, run_underlying ht, Result.andThen, MapKept.run_getObj_map hb, hK.chk, hK.fnd w key _ _ h1, pure, Sem.run]
    rw [← mfind_get rows key 0]
    cases hf : mfind rows key 0 with
    | none => simp [he.run_zero, Sem.run_bind, Result.andThen, pure, Sem.run]
    | some p => simp [Sem.run_bind, Result.andThen, pure, Sem.run]
theorem runs_mapUpdate {enc : κ → Value} {t kt et : TypeId} {x y u : Operand} {b i : Nat} {o : Obj} {rows : List (κ × Value)} {key : κ} {v : Value} (hK : KeyL P kt enc) (ht : P.underlying t = some (.map kt et))
    (hx : ev l x = some (.map (some b))) (hy : ev l y = some (enc key)) (hu : ev l u = some v) (hst : St w0 w I L) (hL : L[i]? = some (b, o)) (hr : MapR enc o rows) :
    ∃ w', Runs P (.mapUpdate t x y u) ty l w .skip w' ∧ ∃ o', St w0 w' I (L.set i (b, o')) ∧ MapR enc o' (mput rows key v) := by
  obtain ⟨es, clock, rfl, h1, h2, h3⟩ := hr
  have hb : w.heap[b]? = some (.map es clock) := hst.own _ (List.mem_of_getElem? hL)
  have put : ∀ o', St w0 { w with heap := w.heap.setIfInBounds b o' } I (L.set i (b, o')) := fun o' =>
    hst.put hL rfl rfl rfl (MapKept.heap_set hb).1 fun j hj _ => (MapKept.heap_set hb).2 j hj
  have hf := hK.fnd w key _ _ h1
  cases hm : mfind rows key 0 with
  | none =>
    rw [hm] at hf
    refine ⟨{ w with heap := w.heap.setIfInBounds b (.map (es.push { key := enc key, val := v, born := clock }) (clock + 1)) }, .ofU (fun ρ => Instr.mapUpdate t (ρ x) (ρ y) (ρ u)) (fun _ _ _ _ _ => rfl) fun ρ hρ => ?_, _, put _, es.push { key := enc key, val := v, born := clock }, clock + 1, rfl, ?_, ?_, ?_⟩
    · simp only [hρ x _ hx, hρ y _ hy, hρ u _ hu, Instr.mapUpdate, Sem.run_bind, run_underlying ht, Result.andThen, MapKept.run_getObj_map hb, hK.chk, hf, MapKept.run_setObj_map _ hb]
    · rw [Array.toList_push]; exact h1.push 0 hm
    · intro e he
      rw [Array.toList_push] at he
      rcases List.mem_append.1 he with h | h
      · have := h2 e h; omega
      · rw [List.mem_singleton.1 h]; exact Nat.lt_succ_self _
    · rw [Array.toList_push, List.map_append]
      refine List.nodup_append.2 ⟨h3, by simp, ?_⟩
      intro a ha b hb e
      obtain ⟨y, hy, rfl⟩ := List.mem_map.1 ha
      have := h2 y hy
      simp only [List.map_cons, List.map_nil, List.mem_singleton] at hb
      omega
  | some p =>
    obtain ⟨j, u0⟩ := p
    rw [hm] at hf
    have hkeys : ∀ (es : List MapEntry) (rows : List (κ × Value)) (i0 : Nat), MRel enc es rows → ∀ {j : Nat} {u0 : Value}, mfind rows key i0 = some (j, u0) → (es[j - i0]?).map (·.key) = some (enc key) := by
      intro es
      induction es with
      | nil => intro rows i0 h j u0 hm; cases rows with
        | nil => cases hm
        | cons p r => cases h
      | cons e es ih => intro rows i0 h j u0 hm; cases rows with
        | nil => cases hm
        | cons p r =>
          obtain ⟨a, x⟩ := p
          unfold MRel at h
          simp only [List.map_cons, List.cons.injEq, Prod.mk.injEq] at h
          unfold mfind at hm
          by_cases hk : key = a
          · rw [if_pos hk] at hm; cases hm; rw [Nat.sub_self]; subst hk; simp [h.1.1]
          · rw [if_neg hk] at hm
            have hge := mfind_ge r key (i0 + 1) j u0 hm
            rw [show j - i0 = (j - (i0 + 1)) + 1 by omega, List.getElem?_cons_succ]
            exact ih r (i0 + 1) h.2 hm
    have hkey := hkeys es.toList rows 0 h1 hm
    rw [Nat.sub_zero, Array.getElem?_toList] at hkey
    have hstay : (Instr.keyThatStays (enc key) (enc key)).run P w = .ok (enc key) w := by simp [Instr.keyThatStays, hK.same]
    refine ⟨{ w with heap := w.heap.setIfInBounds b (.map (es.modify j fun e => { e with key := enc key, val := v }) clock) }, .ofU (fun ρ => Instr.mapUpdate t (ρ x) (ρ y) (ρ u)) (fun _ _ _ _ _ => rfl) fun ρ hρ => ?_, _, put _, es.modify j (fun e => { e with key := enc key, val := v }), clock, rfl, ?_, ?_, ?_⟩
    · simp only [hρ x _ hx, hρ y _ hy, hρ u _ hu, Instr.mapUpdate, Sem.run_bind, run_underlying ht, Result.andThen, MapKept.run_getObj_map hb, hK.chk, hf, hkey, Option.getD_some, hstay, MapKept.run_setObj_map _ hb]
    · rw [Array.toList_modify]; exact h1.put 0 j u0 hm
    · intro e he
      rw [Array.toList_modify] at he
      obtain ⟨q, hq⟩ := List.getElem?_of_mem he
      rw [List.getElem?_modify] at hq
      cases hes : es.toList[q]? with
      | none => rw [hes] at hq; cases hq
      | some e0 =>
        have h4 := h2 e0 (List.mem_of_getElem? hes)
        rw [hes] at hq
        by_cases hjq : j = q
        · simp [hjq] at hq; rw [← hq]; exact h4
        · simp [hjq] at hq; rw [← hq]; exact h4
    · have : ((es.modify j fun e => { e with key := enc key, val := v }).toList.map (·.born)) = es.toList.map (·.born) := by
        rw [Array.toList_modify]
        apply List.ext_getElem?
        intro q
        rw [List.getElem?_map, List.getElem?_map, List.getElem?_modify]
        cases es.toList[q]? with
        | none => rfl
        | some e0 => by_cases hjq : j = q <;> simp [hjq]
      rw [this]; exact h3
end
/-! ### Keys -/
def kI (n : Int) : Value := .int .i64 n
theorem keyI {kt : TypeId} (hk : P.underlying kt = some (.int .i64)) : KeyL P kt kI where
  chk e k w := by
    show (Instr.checkKey e (9999 + 1) kt _).run P w = _
    unfold Instr.checkKey
    simp [Sem.run_bind, run_underlying hk, Result.andThen, kI, pure, Sem.run]
  same k := by simp [Instr.sameBits, kI]
  fnd w k es rows h := by
    have key : ∀ (es : List MapEntry) (rows : List (Int × Value)) (i : Nat), MRel kI es rows → Instr.findNow (.int .i64) (kI k) es i = some (mfind rows k i) := by
      intro es
      induction es with
      | nil => intro rows i h; cases rows with
        | nil => rfl
        | cons p r => cases h
      | cons e es ih => intro rows i h; cases rows with
        | nil => cases h
        | cons p r =>
          obtain ⟨a, x⟩ := p
          unfold MRel at h
          simp only [List.map_cons, List.cons.injEq, Prod.mk.injEq] at h
          unfold Instr.findNow mfind
          rw [h.1.1]
          simp only [Instr.sameNow, kI, if_true]
          by_cases hk : k = a
          · simp [hk, h.1.2]
          · have : (k == a) = false := by simpa using hk
            rw [this, if_neg hk]
            exact ih r (i + 1) h.2
    simp [Instr.findKey, run_underlying hk, Result.andThen, Sem.run_bind, key es rows 0 h, pure, Sem.run]
def kZ (xs : List Int) : Value := .agg (xs.map fun n => Value.int .i64 n).toArray
/-- A struct of n numbers as a key. -/
structure ZKey (n : Nat) where
  xs : List Int
  len : xs.length = n
  deriving DecidableEq
def ZKey.v {n : Nat} (k : ZKey n) : Value := kZ k.xs
theorem run_checkFields {e : Bool} {d : Nat} : ∀ (fs : List Field) (k : Nat) (xs : List Int), (∀ p ∈ fs.zipIdx k, (p.1.name != "_" && p.1.offset == p.2 && isI64 P p.1.type) = true) → xs.length = k + fs.length →
    (forIn fs PUnit.unit fun f (_ : PUnit) => do
      if f.name ≠ "_" then (do
        let x ← part f.type (xs.map fun n => Value.int .i64 n).toArray f.offset
        Instr.checkKey e (d + 1) f.type x
        pure (ForInStep.yield PUnit.unit)) else pure (ForInStep.yield PUnit.unit) : Sem PUnit).run P w = .ok PUnit.unit w := by
  intro fs
  induction fs with
  | nil => intro k xs _ _; rfl
  | cons f fs ih =>
    intro k xs h h1
    have h0 := h (f, k) (by simp [List.zipIdx_cons])
    simp only [Bool.and_eq_true, bne_iff_ne, ne_eq, beq_iff_eq] at h0
    obtain ⟨⟨hn, ho⟩, ht'⟩ := h0
    have ht := isI64_of ht'
    simp only [List.length_cons] at h1
    have hx : k < xs.length := by omega
    have ha : (part f.type (xs.map fun n => Value.int .i64 n).toArray f.offset).run P w = .ok (.int .i64 xs[k]) w := run_partZ ht (by rw [ho]; simp [hx])
    have hc : (Instr.checkKey e (d + 1) f.type (.int .i64 xs[k])).run P w = .ok () w := by
      unfold Instr.checkKey
      simp [Sem.run_bind, run_underlying ht, Result.andThen, pure, Sem.run]
    rw [List.forIn_cons]
    simp only [Sem.run_bind, if_pos hn, ha, Result.andThen, hc, pure, Sem.run]
    exact ih (k + 1) xs (fun p hp => h p (by rw [List.zipIdx_cons]; exact List.mem_cons_of_mem _ hp)) (by omega)
theorem sameBits_ints : ∀ (xs : List Int), ((xs.map fun n => Value.int .i64 n).zip (xs.map fun n => Value.int .i64 n)).all (fun p => Instr.sameBits 9999 p.1 p.2) = true
  | [] => rfl
  | n :: r => by
    rw [List.map_cons, List.zip_cons_cons, List.all_cons, sameBits_ints r]
    simp [Instr.sameBits]
theorem EZ.opn {kt : TypeId} {n : Nat} (hk : EZ P kt n = true) : ∃ fs : Array Field, P.underlying kt = some (.struct fs) ∧ fs.toList.length = n ∧ ∀ p ∈ fs.toList.zipIdx, (p.1.name != "_" && p.1.offset == p.2 && isI64 P p.1.type) = true := by
  unfold EZ at hk
  cases hu : P.underlying kt with
  | none => simp [hu] at hk
  | some d =>
    cases d <;> simp only [hu] at hk <;> try (exact absurd hk (by decide))
    rename_i fs
    simp only [Bool.and_eq_true, beq_iff_eq, List.all_eq_true] at hk
    exact ⟨fs, rfl, hk.1.2, fun p hp => by simpa using hk.2 p hp⟩
theorem keyZ {kt : TypeId} {n : Nat} (hk : EZ P kt n = true) : KeyL P kt (ZKey.v (n := n)) where
  same k := by
    show Instr.sameBits (9999 + 1) (kZ k.xs) (kZ k.xs) = true
    unfold kZ
    rw [Instr.sameBits]
    simp only [beq_self_eq_true, Bool.true_and]
    exact sameBits_ints k.xs
  chk e k w := by
    obtain ⟨fs, hu, hl, hall⟩ := (EZ.opn hk)
    show (Instr.checkKey e (9999 + 1) kt (kZ k.xs)).run P w = _
    unfold Instr.checkKey kZ
    simp only [Sem.run_bind, run_underlying hu, Result.andThen]
    have h := run_checkFields (P := P) (w := w) (e := e) (d := 9998) fs.toList 0 k.xs (fun p hp => hall p hp) (by rw [k.len]; omega)
    rw [← Array.forIn_toList, h]
    rfl
  fnd w k es rows h := by
    obtain ⟨fs, hu, _, _⟩ := (EZ.opn hk)
    have ask : ∀ (es : List MapEntry) (rows : List (ZKey n × Value)) (i : Nat), MRel ZKey.v es rows → (Instr.findAsking kt (ZKey.v k) es i).run P w = .ok (mfind rows k i) w := by
      intro es
      induction es with
      | nil => intro rows i h; cases rows with
        | nil => rfl
        | cons p r => cases h
      | cons e es ih => intro rows i h; cases rows with
        | nil => cases h
        | cons p r =>
          obtain ⟨a, x⟩ := p
          unfold MRel at h
          simp only [List.map_cons, List.cons.injEq, Prod.mk.injEq] at h
          have he : (Op.equal kt (ZKey.v k) (ZKey.v a)).run P w = .ok (decide (k.xs = a.xs)) w := (run_eqZ (P := P) (w := w) (op := .eql) (t' := 0) (x := .tmp 0) (y := .tmp 0) hk k.len a.len).1
          rw [Instr.findAsking, h.1.1]
          simp only [Sem.run_bind, he, Result.andThen]
          unfold mfind
          by_cases hka : k = a
          · subst hka
            simp [h.1.2, pure, Sem.run]
          · have hne : ¬ k.xs = a.xs := fun e => hka (by cases k; cases a; simp at e; subst e; rfl)
            rw [if_neg hka]
            simp only [hne, decide_false, Bool.false_eq_true, if_false]
            exact ih r (i + 1) h.2
    cases es with
    | nil =>
      cases rows with
      | nil => simp [Instr.findKey, run_underlying hu, Result.andThen, Sem.run_bind, Instr.findNow, mfind, pure, Sem.run]
      | cons p r => cases h
    | cons e es =>
      have hnow : Instr.findNow (.struct fs) (ZKey.v k) (e :: es) 0 = none := by
        unfold Instr.findNow ZKey.v kZ
        simp [Instr.sameNow]
      simp only [Instr.findKey, run_underlying hu, Result.andThen, Sem.run_bind, hnow]
      exact ask (e :: es) rows 0 h
end Go.Proofs.YtlmmpcdjkpibcaaX
