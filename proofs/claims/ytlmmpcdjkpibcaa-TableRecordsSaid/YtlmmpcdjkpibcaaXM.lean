/- Maps: asked whether a key is there, entries dropped, counted; a map of one's own handed to the kit's contracts. Own lemmas, no program in sight. -/
import Derived.Test.YtlmmpcdjkpibcaaXJ
import Derived.Test.YtlmmpcdjkpibcaaXS
import Derived.Maps.Own
import Derived.Lib.SlKeysI
namespace Go.Proofs.YtlmmpcdjkpibcaaX
set_option linter.unusedVariables false
set_option linter.unusedSimpArgs false
open Go Go.RowKit
variable {w0 w : World} {I : Imm} {L : Own} {P : Program} {l : Env} {ty : TypeId} {N : Nat}

section
variable {κ : Type} [DecidableEq κ]
def mdel : List (κ × Value) → κ → List (κ × Value)
  | [], _ => []
  | (a, u) :: r, k => if k = a then r else (a, u) :: mdel r k
theorem MRel.del {enc : κ → Value} {k : κ} : ∀ {es : List MapEntry} {rows : List (κ × Value)} (h : MRel enc es rows) (i j : Nat) (u : Value), mfind rows k i = some (j, u) → MRel enc (es.eraseIdx (j - i)) (mdel rows k)
  | [], [], _, _, _, _, hf => by cases hf
  | [], _ :: _, h, _, _, _, _ => by cases h
  | _ :: _, [], h, _, _, _, _ => by cases h
  | e :: es, (a, x) :: r, h, i, j, u, hf => by
    unfold MRel at h
    simp only [List.map_cons, List.cons.injEq, Prod.mk.injEq] at h
    unfold mfind at hf
    by_cases hk : k = a
    · rw [if_pos hk] at hf
      cases hf
      unfold mdel
      rw [if_pos hk, Nat.sub_self, List.eraseIdx_cons_zero]
      exact h.2
    · rw [if_neg hk] at hf
      have hge := mfind_ge r k (i + 1) j u hf
      have ih := MRel.del h.2 (i + 1) j u hf
      unfold mdel
      rw [if_neg hk, show j - i = (j - (i + 1)) + 1 by omega, List.eraseIdx_cons_succ]
      unfold MRel at ih ⊢
      simp [ih, h.1]
theorem mfind_none {rows : List (κ × Value)} {k : κ} (h : mfind rows k 0 = none) : mdel rows k = rows := by
  have key : ∀ (rows : List (κ × Value)) (i : Nat), mfind rows k i = none → mdel rows k = rows := by
    intro rows
    induction rows with
    | nil => intro i _; rfl
    | cons p r ih =>
      obtain ⟨a, x⟩ := p
      intro i hf
      unfold mfind at hf
      by_cases hk : k = a
      · rw [if_pos hk] at hf; cases hf
      · rw [if_neg hk] at hf
        unfold mdel
        rw [if_neg hk, ih (i + 1) hf]
  exact key rows 0 h
omit [DecidableEq κ] in
theorem MapR.length {enc : κ → Value} {o : Obj} {rows : List (κ × Value)} (h : MapR enc o rows) : ∃ es clock, o = .map es clock ∧ es.size = rows.length := by
  obtain ⟨es, clock, rfl, h1, _⟩ := h
  refine ⟨es, clock, rfl, ?_⟩
  have := congrArg List.length h1
  simpa using this
theorem runs_lookupOk {enc : κ → Value} {t kt et : TypeId} {x y : Operand} {b i : Nat} {o : Obj} {rows : List (κ × Value)} {key : κ} {z : Value} {size bytes : Nat} (hK : KeyL P kt enc) (ht : P.underlying t = some (.map kt et)) (he : TI P et z size bytes)
    (hx : ev l x = some (.map (some b))) (hy : ev l y = some (enc key)) (hst : St w0 w I L) (hL : L[i]? = some (b, o)) (hr : MapR enc o rows) :
    Runs P (.lookup t x y true) ty l w (.value (.tuple #[(mget rows key).getD z, .bool (mget rows key).isSome])) w :=
  .of (fun ρ => Instr.lookup t (ρ x) (ρ y) true) (fun _ _ _ _ _ => rfl) fun ρ hρ => by
    obtain ⟨es, clock, rfl, h1, _, _⟩ := hr
    have hb : w.heap[b]? = some (.map es clock) := hst.own _ (List.mem_of_getElem? hL)
    simp only [hρ x _ hx, hρ y _ hy, Instr.lookup, Sem.run_bind, run_underlying ht, Result.andThen, MapKept.run_getObj_map hb, hK.chk, hK.fnd w key _ _ h1, pure, Sem.run]
    rw [← mfind_get rows key 0]
    cases hf : mfind rows key 0 with
    | none => simp [he.run_zero, Sem.run_bind, Result.andThen, pure, Sem.run]
    | some p => simp [Sem.run_bind, Result.andThen, pure, Sem.run]
omit [DecidableEq κ] in
theorem runs_lenM {enc : κ → Value} {t kt et : TypeId} {x : Operand} {b i : Nat} {o : Obj} {rows : List (κ × Value)} (ht : P.underlying t = some (.map kt et)) (hx : ev l x = some (.map (some b))) (hst : St w0 w I L) (hL : L[i]? = some (b, o)) (hr : MapR enc o rows) :
    Runs P (.call ⟨.builtin .len, #[x], #[t]⟩) ty l w (.value (.int .i64 (rows.length : Nat))) w := by
  obtain ⟨es, clock, rfl, hz⟩ := hr.length
  have hb : w.heap[b]? = some (.map es clock) := hst.own _ (List.mem_of_getElem? hL)
  have hrun : (Builtin.len_ #[t] ty #[.map (some b)]).run P w = .ok (.int .i64 (rows.length : Nat)) w := by
    unfold Builtin.len_
    simp [Sem.run_bind, run_underlying ht, Result.andThen, MapKept.run_getObj_map hb, pure, Sem.run, goInt, hz]
  exact Runs.bi (args := [x]) (vs := [.map (some b)]) (by simp [evs, hx]) fun consts => by simp only [builtin, Sem.run_bind, hrun]; rfl
theorem runs_delete {enc : κ → Value} {t t2 kt et : TypeId} {x y : Operand} {b i : Nat} {o : Obj} {rows : List (κ × Value)} {key : κ} (hK : KeyL P kt enc) (ht : P.underlying t = some (.map kt et))
    (hx : ev l x = some (.map (some b))) (hy : ev l y = some (enc key)) (hst : St w0 w I L) (hL : L[i]? = some (b, o)) (hr : MapR enc o rows) :
    ∃ v w', Runs P (.call ⟨.builtin .delete, #[x, y], #[t, t2]⟩) ty l w (.value v) w' ∧ ∃ o', St w0 w' I (L.set i (b, o')) ∧ MapR enc o' (mdel rows key) := by
  obtain ⟨es, clock, rfl, h1, h2, h3⟩ := hr
  have hb : w.heap[b]? = some (.map es clock) := hst.own _ (List.mem_of_getElem? hL)
  have put : ∀ o', St w0 { w with heap := w.heap.setIfInBounds b o' } I (L.set i (b, o')) := fun o' =>
    hst.put hL rfl rfl rfl (MapKept.heap_set hb).1 fun j hj _ => (MapKept.heap_set hb).2 j hj
  have hf := hK.fnd w key _ _ h1
  cases hm : mfind rows key 0 with
  | none =>
    rw [hm] at hf
    have hrun : (Builtin.delete_ #[t, t2] ty #[.map (some b), enc key]).run P w = .ok (.tuple #[]) { w with heap := w.heap.setIfInBounds b (.map es clock) } := by
      unfold Builtin.delete_
      simp [Sem.run_bind, run_underlying ht, Result.andThen, MapKept.run_getObj_map hb, hK.chk, hf, MapKept.run_setObj_map _ hb, pure, Sem.run]
    exact ⟨_, _, Runs.bi (args := [x, y]) (vs := [.map (some b), enc key]) (by simp [evs, hx, hy]) (fun consts => by simp only [builtin, Sem.run_bind, hrun]; rfl), _, put _, es, clock, rfl, by rw [mfind_none hm]; exact h1, h2, h3⟩
  | some p =>
    obtain ⟨j, u0⟩ := p
    rw [hm] at hf
    have hrun : (Builtin.delete_ #[t, t2] ty #[.map (some b), enc key]).run P w = .ok (.tuple #[]) { w with heap := w.heap.setIfInBounds b (.map (es.eraseIdxIfInBounds j) clock) } := by
      unfold Builtin.delete_
      simp [Sem.run_bind, run_underlying ht, Result.andThen, MapKept.run_getObj_map hb, hK.chk, hf, MapKept.run_setObj_map _ hb, pure, Sem.run]
    have hel : (es.eraseIdxIfInBounds j).toList = es.toList.eraseIdx j := by
      unfold Array.eraseIdxIfInBounds
      split
      · rw [Array.toList_eraseIdx]
      · rw [List.eraseIdx_of_length_le (by simpa using Nat.le_of_not_lt ‹_›)]
    refine ⟨_, _, Runs.bi (args := [x, y]) (vs := [.map (some b), enc key]) (by simp [evs, hx, hy]) (fun consts => by simp only [builtin, Sem.run_bind, hrun]; rfl), _, put _, es.eraseIdxIfInBounds j, clock, rfl, ?_, ?_, ?_⟩
    · rw [hel]; exact MRel.del h1 0 j u0 hm
    · intro e he; rw [hel] at he; exact h2 e (List.mem_of_mem_eraseIdx he)
    · rw [hel]; exact List.Nodup.sublist ((List.eraseIdx_sublist _ _).map _) h3
end
/-! ### Rows in plain words -/
section
variable {α : Type}
def pget : List (Int × α) → Int → Option α
  | [], _ => none
  | (a, u) :: r, k => if k = a then some u else pget r k
def pput : List (Int × α) → Int → α → List (Int × α)
  | [], k, v => [(k, v)]
  | (a, u) :: r, k, v => if k = a then (a, v) :: r else (a, u) :: pput r k v
def pdel : List (Int × α) → Int → List (Int × α)
  | [], _ => []
  | (a, u) :: r, k => if k = a then r else (a, u) :: pdel r k
/-- Rows as a map has them. -/
def rend (g : α → Value) (rows : List (Int × α)) : List (Int × Value) := rows.map fun r => (r.1, g r.2)
variable {g : α → Value}
theorem mget_rend (rows : List (Int × α)) (k : Int) : mget (rend g rows) k = (pget rows k).map g := by
  induction rows with
  | nil => rfl
  | cons p r ih =>
    obtain ⟨a, u⟩ := p
    unfold rend at ih ⊢
    rw [List.map_cons]
    unfold mget pget
    split
    · rfl
    · exact ih
theorem mput_rend (rows : List (Int × α)) (k : Int) (v : α) : mput (rend g rows) k (g v) = rend g (pput rows k v) := by
  induction rows with
  | nil => rfl
  | cons p r ih =>
    obtain ⟨a, u⟩ := p
    unfold rend at ih ⊢
    rw [List.map_cons]
    unfold mput pput
    split
    · rfl
    · rw [ih]; rfl
theorem mdel_rend (rows : List (Int × α)) (k : Int) : mdel (rend g rows) k = rend g (pdel rows k) := by
  induction rows with
  | nil => rfl
  | cons p r ih =>
    obtain ⟨a, u⟩ := p
    unfold rend at ih ⊢
    rw [List.map_cons]
    unfold mdel pdel
    split
    · rfl
    · rw [ih]; rfl
theorem rend_keys (rows : List (Int × α)) : (rend g rows).map Prod.fst = rows.map Prod.fst := by
  unfold rend
  rw [List.map_map]
  rfl
theorem rend_len (rows : List (Int × α)) : (rend g rows).length = rows.length := List.length_map _
theorem pget_none {rows : List (Int × α)} {k : Int} : pget rows k = none ↔ k ∉ rows.map Prod.fst := by
  induction rows with
  | nil => simp [pget]
  | cons p r ih =>
    obtain ⟨a, x⟩ := p
    unfold pget
    by_cases h : k = a
    · subst h; simp
    · rw [if_neg h, ih]; simp [h]
theorem pget_mem {rows : List (Int × α)} {k : Int} {u : α} (h : pget rows k = some u) : (k, u) ∈ rows := by
  induction rows with
  | nil => cases h
  | cons p r ih =>
    obtain ⟨a, x⟩ := p
    unfold pget at h
    by_cases e : k = a
    · rw [if_pos e] at h; cases h; subst e; exact List.mem_cons_self ..
    · rw [if_neg e] at h; exact List.mem_cons_of_mem _ (ih h)
theorem pput_keys (rows : List (Int × α)) (k : Int) (v : α) : (pput rows k v).map Prod.fst = if k ∈ rows.map Prod.fst then rows.map Prod.fst else rows.map Prod.fst ++ [k] := by
  induction rows with
  | nil => simp [pput]
  | cons p r ih =>
    obtain ⟨a, x⟩ := p
    unfold pput
    by_cases h : k = a
    · subst h; simp
    · rw [if_neg h, List.map_cons, ih]
      by_cases h2 : k ∈ r.map Prod.fst
      · rw [if_pos h2, if_pos (by simp only [List.map_cons]; exact List.mem_cons_of_mem _ h2)]; rfl
      · rw [if_neg h2, if_neg (by simp only [List.map_cons, List.mem_cons, not_or]; exact ⟨h, h2⟩)]; rfl
theorem pput_nodup {rows : List (Int × α)} (hn : (rows.map Prod.fst).Nodup) (k : Int) (v : α) : ((pput rows k v).map Prod.fst).Nodup := by
  rw [pput_keys]
  split
  · exact hn
  · rename_i h
    refine List.nodup_append.2 ⟨hn, by simp, ?_⟩
    intro a ha b hb e
    rw [List.mem_singleton.1 hb] at e
    exact h (by rw [← e]; exact ha)
theorem pdel_keys (rows : List (Int × α)) (k : Int) : (pdel rows k).map Prod.fst = (rows.map Prod.fst).erase k := by
  induction rows with
  | nil => rfl
  | cons p r ih =>
    obtain ⟨a, x⟩ := p
    unfold pdel
    by_cases h : k = a
    · subst h; simp
    · rw [if_neg h, List.map_cons, ih, List.map_cons, List.erase_cons_tail (by simpa using fun e => h e.symm)]
theorem pdel_nodup {rows : List (Int × α)} (hn : (rows.map Prod.fst).Nodup) (k : Int) : ((pdel rows k).map Prod.fst).Nodup := by
  rw [pdel_keys]
  exact hn.erase k
theorem pget_put (rows : List (Int × α)) (k : Int) (v : α) (k' : Int) : pget (pput rows k v) k' = if k' = k then some v else pget rows k' := by
  induction rows with
  | nil => simp [pput, pget]
  | cons p r ih =>
    obtain ⟨a, u⟩ := p
    unfold pput
    by_cases h : k = a
    · subst h
      rw [if_pos rfl]
      unfold pget
      by_cases h2 : k' = k <;> simp [h2]
    · rw [if_neg h]
      unfold pget
      rw [ih]
      by_cases h2 : k' = a
      · subst h2
        rw [if_pos rfl, if_pos rfl, if_neg (fun e => h e.symm)]
      · simp [h2]
theorem pget_del {rows : List (Int × α)} (hn : (rows.map Prod.fst).Nodup) (k k' : Int) : pget (pdel rows k) k' = if k' = k then none else pget rows k' := by
  induction rows with
  | nil => simp [pdel, pget]
  | cons p r ih =>
    obtain ⟨a, u⟩ := p
    rw [List.map_cons, List.nodup_cons] at hn
    unfold pdel
    by_cases h : k = a
    · subst h
      rw [if_pos rfl]
      by_cases h2 : k' = k
      · rw [if_pos h2, h2, pget_none]; exact hn.1
      · rw [if_neg h2]
        conv => rhs; unfold pget
        rw [if_neg h2]
    · rw [if_neg h]
      unfold pget
      rw [ih hn.2]
      by_cases h2 : k' = a
      · subst h2
        rw [if_pos rfl, if_pos rfl, if_neg (fun e => h e.symm)]
      · simp [h2]
theorem pget_some {rows : List (Int × α)} (hn : (rows.map Prod.fst).Nodup) {k : Int} {u : α} (h : (k, u) ∈ rows) : pget rows k = some u := by
  induction rows with
  | nil => cases h
  | cons p r ih =>
    obtain ⟨a, x⟩ := p
    rw [List.map_cons, List.nodup_cons] at hn
    unfold pget
    rcases List.mem_cons.1 h with e | h2
    · cases e; rw [if_pos rfl]
    · have hne : k ≠ a := fun e => hn.1 (by rw [← e]; exact List.mem_map.2 ⟨(k, u), h2, rfl⟩)
      rw [if_neg hne]
      exact ih hn.2 h2
end
/-! ### Handed to the kit -/
open Go.WideElems Go.Maps in
theorem MapR.owns {kt : TypeId} {b : Nat} {o : Obj} {rows : List (Int × Value)} (hk : P.underlying kt = some (.int .i64)) (hb : w.heap[b]? = some o) (hr : MapR kI o rows) (hn : (rows.map Prod.fst).Nodup) (hw : ∀ r ∈ rows, (Lit.int .i64 r.1).wf = true) (hs : rows.length ≤ maxLen) :
    ∃ D : DataW Unit, w.ownsMap P kt (fun _ => some (.nil, [])) b rows.length D ∧ (intKeys D).Perm (rows.map Prod.fst) ∧ Maps.size D = rows.length := by
  obtain ⟨es, clock, rfl, h1, h2, h3⟩ := hr
  have hko : ∀ n : Int, (Lit.int .i64 n).wf = true → keyOf P kt (kI n) = some (.int .i64 n) := fun n h => by simp [keyOf, hk, mapKey, kI, h]
  have key : ∀ (es : List MapEntry) (rows : List (Int × Value)), MRel kI es rows → (∀ r ∈ rows, (Lit.int .i64 r.1).wf = true) →
      es.map (rg (H := Unit) P kt (fun _ => some (.nil, []))) = rows.map (fun r => (Lit.int .i64 r.1, DataW.nil)) ∧ (∀ x ∈ es, ∃ y, rd (H := Unit) P kt (fun _ => some (.nil, [])) x = some y) ∧ es.map (·.key) = rows.map (fun r => kI r.1) := by
    intro es
    induction es with
    | nil => intro rows h _; cases rows with
      | nil => exact ⟨rfl, by simp, rfl⟩
      | cons p r => cases h
    | cons e es ih => intro rows h hw; cases rows with
      | nil => cases h
      | cons p r =>
        obtain ⟨a, x⟩ := p
        unfold MRel at h
        simp only [List.map_cons, List.cons.injEq, Prod.mk.injEq] at h
        obtain ⟨i1, i2, i3⟩ := ih r h.2 (fun q hq => hw q (List.mem_cons_of_mem _ hq))
        have hrd : rd (H := Unit) P kt (fun _ => some (.nil, [])) e = some (Lit.int .i64 a, DataW.nil) := by
          unfold rd
          rw [h.1.1, hko a (hw (a, x) (List.mem_cons_self ..))]
          rfl
        refine ⟨?_, ?_, ?_⟩
        · rw [List.map_cons, List.map_cons, i1, rg_of hrd]
        · intro y hy
          rcases List.mem_cons.1 hy with rfl | hy
          · exact ⟨_, hrd⟩
          · exact i2 y hy
        · rw [List.map_cons, List.map_cons, i3, h.1.1]
  obtain ⟨k1, k2, k3⟩ := key es.toList rows h1 hw
  have hz : es.size = rows.length := by have := congrArg List.length h1; simpa using this
  refine ⟨.map ((es.toList.map (rg P kt (fun _ => some (.nil, [])))).foldr DataW.insert []), ⟨es, clock, hb, ⟨by omega, ⟨h2, h3, ?_⟩, k2⟩, by omega, rfl⟩, ?_, ?_⟩
  · rw [k3]
    have : rows.map (fun r => kI r.1) = (rows.map Prod.fst).map kI := by rw [List.map_map]; rfl
    rw [this]
    exact List.pairwise_map.2 (List.Pairwise.imp (fun {a b} hne e => hne (by simpa [kI] using e)) hn)
  · rw [k1]
    show ((((rows.map fun r => (Lit.int .i64 r.1, DataW.nil)).foldr DataW.insert []).map fun p : Lit × DataW Unit => Go.intOf p.1)).Perm _
    refine ((WideShapes.sorted_perm _).map _).trans ?_
    rw [List.map_map]
    exact List.Perm.refl _
  · rw [k1]
    show ((rows.map fun r => (Lit.int .i64 r.1, DataW.nil)).foldr DataW.insert []).length = _
    rw [length_sorted, List.length_map]
theorem St.belowAll {w' : World} (h : St w0 w I L) (hb : Below w.heap.size w w') : St w0 w' I L :=
  ⟨hb.os.trans h.os, hb.tape.trans h.tape, hb.output.trans h.out, fun b o hi => (hb.block b (h.lt hi)).trans (h.imm b o hi), fun p hp => (hb.block p.1 (h.lt_own hp)).trans (h.own p hp), h.sep, h.nd⟩
theorem St.ownsRow {w' : World} {e : TypeId} {v : Value} {n size : Nat} {xs : List Value} (h : St w0 w I L) (hb : Below w.heap.size w w') (ho : w'.ownsRow w.heap.size e size v n xs) (hone : ∀ u ∈ xs, u.oneCell' = true) : ∃ Lv, St w0 w' I (Lv ++ L) ∧ Grow e size v n xs Lv := by
  obtain ⟨h1, ⟨rfl, rfl⟩ | ⟨g, cap, cur, rfl, hg, hh, h2, h3, h4, h5⟩⟩ := ho
  · exact ⟨[], h.belowAll hb, h1, hone, .inl ⟨rfl, rfl, rfl⟩⟩
  · exact ⟨[(g, .cells cur e)], h.cons_new ⟨hb.os, hb.tape, hb.output, hb.size, fun k hk _ => hb.block k hk⟩ hg hh, h1, hone, .inr ⟨g, cap, cur, rfl, rfl, h2, h3, h4, h5⟩⟩
end Go.Proofs.YtlmmpcdjkpibcaaX
