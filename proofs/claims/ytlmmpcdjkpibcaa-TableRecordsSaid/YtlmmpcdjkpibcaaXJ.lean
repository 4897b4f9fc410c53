/- Ranging over a map of one's own, in whatever order. Own lemmas, no program in sight. -/
import Derived.Test.YtlmmpcdjkpibcaaXI
import Derived.Test.YtlmmpcdjkpibcaaXE
import Derived.Test.YtlmmpcdjkpibcaaXD
import Derived.Laws.IdiomRangeMap
namespace Go.Proofs.YtlmmpcdjkpibcaaX
set_option linter.unusedVariables false
set_option linter.unusedSimpArgs false
open Go Go.RowKit
variable {w0 w : World} {I : Imm} {L : Own} {P : Program} {l : Env} {ty : TypeId} {N : Nat}

section
variable {κ : Type} [DecidableEq κ]
theorem mget_mem : ∀ {rows : List (κ × Value)}, (rows.map Prod.fst).Nodup → ∀ {k : κ} {u : Value}, (k, u) ∈ rows → mget rows k = some u
  | [], _, k, u, h => by cases h
  | (a, x) :: r, hn, k, u, h => by
    simp only [List.map_cons, List.nodup_cons] at hn
    unfold mget
    rcases List.mem_cons.1 h with e | h2
    · cases e; rw [if_pos rfl]
    · have hne : k ≠ a := fun e => hn.1 (e ▸ List.mem_map.2 ⟨(k, u), h2, rfl⟩)
      rw [if_neg hne]
      exact mget_mem hn.2 h2
theorem mget_none : ∀ {rows : List (κ × Value)} {k : κ}, mget rows k = none ↔ k ∉ rows.map Prod.fst
  | [], k => by simp [mget]
  | (a, x) :: r, k => by
    unfold mget
    by_cases h : k = a
    · subst h; simp
    · rw [if_neg h, mget_none]; simp [h]
theorem mget_some {rows : List (κ × Value)} {k : κ} {u : Value} (h : mget rows k = some u) : (k, u) ∈ rows := by
  induction rows with
  | nil => cases h
  | cons p r ih =>
    obtain ⟨a, x⟩ := p
    unfold mget at h
    by_cases e : k = a
    · rw [if_pos e] at h; cases h; subst e; exact List.mem_cons_self ..
    · rw [if_neg e] at h; exact List.mem_cons_of_mem _ (ih h)
theorem mput_keys : ∀ (rows : List (κ × Value)) (k : κ) (v : Value), (mput rows k v).map Prod.fst = if k ∈ rows.map Prod.fst then rows.map Prod.fst else rows.map Prod.fst ++ [k]
  | [], k, v => by simp [mput]
  | (a, x) :: r, k, v => by
    unfold mput
    by_cases h : k = a
    · subst h; simp
    · rw [if_neg h, List.map_cons, mput_keys r k v]
      by_cases h2 : k ∈ r.map Prod.fst
      · rw [if_pos h2, if_pos (by simp only [List.map_cons]; exact List.mem_cons_of_mem _ h2)]; rfl
      · rw [if_neg h2, if_neg (by simp only [List.map_cons, List.mem_cons, not_or]; exact ⟨h, h2⟩)]; rfl
theorem mput_nodup {rows : List (κ × Value)} (hn : (rows.map Prod.fst).Nodup) (k : κ) (v : Value) : ((mput rows k v).map Prod.fst).Nodup := by
  rw [mput_keys]
  split
  · exact hn
  · rename_i h
    refine List.nodup_append.2 ⟨hn, by simp, ?_⟩
    intro a ha b hb e
    rw [List.mem_singleton.1 hb] at e
    exact h (by rw [← e]; exact ha)
/-- An iterator, and what it has not handed out. -/
def IterM (enc : κ → Value) (bm : Nat) (oI oM : Obj) (rest : List (κ × Value)) : Prop := ∃ es clock since seen c0, oM = .map es clock ∧ oI = .mapIter (some bm) since seen c0 ∧ (∀ e ∈ es.toList, e.born < since) ∧ since ≤ c0 ∧ since ≤ clock ∧ (es.toList.map (·.born)).Nodup ∧
  (es.toList.filter fun e => !seen.contains e.born).map (fun e => (e.key, e.val)) = rest.map fun r => (enc r.1, r.2)
/-- Behind a step: the entry at hand. -/
def IterC (enc : κ → Value) (bm : Nat) (oI oM : Obj) (k : κ) (u : Value) : Prop := ∃ es clock since seen, oM = .map es clock ∧ oI = .mapIter (some bm) since seen clock ∧ ∃ e ∈ es.toList, seen.back? = some e.born ∧ e.key = enc k ∧ e.val = u ∧ (es.toList.map (·.born)).Nodup
omit [DecidableEq κ] in
theorem runs_rangeM {enc : κ → Value} {t kt et : TypeId} {x : Operand} {bm j : Nat} {oM : Obj} {rows : List (κ × Value)} (ht : P.underlying t = some (.map kt et)) (hx : ev l x = some (.map (some bm))) (hst : St w0 w I L) (hL : L[j]? = some (bm, oM)) (hr : MapR enc oM rows) :
    ∃ v w', Runs P (.range t x) ty l w (.value v) w' ∧ ∃ b oI, v = .pointer (some ⟨b, 0, none⟩) ∧ St w0 w' I ((b, oI) :: L) ∧ IterM enc bm oI oM rows := by
  obtain ⟨es, clock, rfl, h1, h2, h3⟩ := hr
  have hb : w.heap[bm]? = some (.map es clock) := hst.own _ (List.mem_of_getElem? hL)
  refine ⟨_, _, .of (fun ρ => Instr.range t (ρ x)) (fun _ _ _ _ _ => rfl) fun ρ hρ => by rw [hρ x _ hx]; exact run_range_map w t kt et bm es clock ht hb, _, _, rfl, hst.heap_new _, es, clock, clock, #[], clock, rfl, rfl, h2, Nat.le_refl _, Nat.le_refl _, h3, ?_⟩
  have : (es.toList.filter fun e => !(#[] : Array Nat).contains e.born) = es.toList := List.filter_eq_self.2 (fun e _ => by simp)
  rw [this]
  exact h1
def nextM : Bool → List Value → List Value
  | true, kv => .bool true :: kv
  | false, _ => [.bool false]
theorem nextM_0 (b : Bool) (kv : List Value) : (nextM b kv)[0]? = some (.bool b) := by cases b <;> rfl
omit [DecidableEq κ] in
theorem runs_nextM {enc : κ → Value} (hinj : ∀ a b, enc a = enc b → a = b) {x : Operand} {b bm i j : Nat} {oI oM : Obj} {rest : List (κ × Value)} (hx : ev l x = some (.pointer (some ⟨b, 0, none⟩))) (hst : St w0 w I L) (hL : L[i]? = some (b, oI)) (hM : L[j]? = some (bm, oM)) (hit : IterM enc bm oI oM rest) :
    ∃ v w', Runs P (.next x false) ty l w (.value v) w' ∧ ∃ g kv, v = .tuple (nextM g kv).toArray ∧ ((g = false ∧ rest = [] ∧ St w0 w' I L) ∨
      (g = true ∧ ∃ k u rest' oI', rest.Perm ((k, u) :: rest') ∧ St w0 w' I (L.set i (b, oI')) ∧ IterM enc bm oI' oM rest' ∧ IterC enc bm oI' oM k u)) := by
  obtain ⟨es, clock, since, seen, c0, rfl, rfl, hold, hsc, hsk, hnd, hrest⟩ := hit
  have hb : w.heap[b]? = some (.mapIter (some bm) since seen c0) := hst.own _ (List.mem_of_getElem? hL)
  have hm : w.heap[bm]? = some (.map es clock) := hst.own _ (List.mem_of_getElem? hM)
  have hfl : (leftOf es seen).toList = es.toList.filter fun e => !seen.contains e.born := by unfold leftOf; simp
  have key : (leftOf es seen).size = 0 ∧ (Instr.next (.pointer (some ⟨b, 0, none⟩)) false ty).run P w = .ok (.tuple #[.bool false]) w ∨
      ∃ e ∈ (leftOf es seen).toList, ∃ w1 : World, St w0 w1 I L ∧ (Instr.next (.pointer (some ⟨b, 0, none⟩)) false ty).run P w = .ok (.tuple #[.bool true, e.key, e.val]) { w1 with heap := w1.heap.setIfInBounds b (.mapIter (some bm) since (seen.push e.born) clock) } ∧ w1.heap = w.heap := by
    simp only [Instr.next, getObj, Sem.run_bind, Sem.run, hb, hm, Result.andThen, next_test_false seen es since c0 hold hsc, Bool.false_eq_true, if_false]
    unfold leftOf
    have hmem : ∀ x ∈ (Array.filter (fun e => !seen.contains e.born) es).toList, x.born < since := fun x hx => hold x (by simp at hx ⊢; exact hx.1)
    generalize Array.filter (fun e => !seen.contains e.born) es = L' at hmem ⊢
    have e1 : L'.filter (fun x => decide (x.born < since)) = L' := Array.filter_eq_self.2 (fun x hx => by simpa using hmem x (by simpa using hx))
    have e2 : L'.filter (fun x => decide (x.born ≥ since)) = #[] := by
      rw [Array.filter_eq_empty_iff]
      intro x hx
      have := hmem x (by simpa using hx)
      simp
      omega
    simp only [e1, e2, Array.append_empty]
    by_cases h0 : L'.size = 0
    · left
      have : L' = #[] := Array.eq_empty_of_size_eq_zero h0
      subst this
      refine ⟨rfl, ?_⟩
      simp [choose, Sem.run, Question.forced]
    · right
      have hne : L'.isEmpty = false := by simp [Array.isEmpty, h0]
      simp only [hne, Bool.false_eq_true, if_false, Array.empty_append, Array.size_map]
      have hch : ∃ (j : Nat) (w1 : World), j < L'.size ∧ St w0 w1 I L ∧ w1.heap = w.heap ∧ (choose (Question.mapNext L'.size)).run P w = .ok j w1 := by
        by_cases hf : L'.size ≤ 1
        · exact ⟨0, w, by omega, hst, rfl, by simp [choose, Sem.run, Question.forced, hf]⟩
        · exact ⟨_, w.drew, Nat.mod_lt _ (by omega), hst.drewN, rfl, by
            simp only [choose, Sem.run, Question.forced, decide_eq_true_eq, hf, if_false, Question.cut]
            rfl⟩
      obtain ⟨j, w1, hj, hst1, hheap, hrun⟩ := hch
      refine ⟨L'[j], by simp, w1, hst1, ?_, hheap⟩
      have hb1 : w1.heap[b]? = some (.mapIter (some bm) since seen c0) := by rw [hheap]; exact hb
      have hset : ∀ o' : Obj, (setObj b o').run P w1 = .ok () { w1 with heap := w1.heap.setIfInBounds b o' } := fun o' => by
        simp only [setObj, Sem.run, hb1]
      simp only [hrun, Array.getElem?_map, Array.getElem?_eq_getElem hj, Option.map_some, Sem.run_bind, hset, Result.andThen]
      rfl
  rcases key with ⟨h0, hrun⟩ | ⟨e, he, w1, hst1, hrun, hheap⟩
  · have hr0 : rest = [] := by
      have : (leftOf es seen).toList = [] := by rw [← List.length_eq_zero_iff, Array.length_toList]; exact h0
      rw [← hfl, this] at hrest
      cases rest with
      | nil => rfl
      | cons _ _ => simp at hrest
    exact ⟨_, w, .of (fun ρ => Instr.next (ρ x) false ty) (fun _ _ _ _ _ => rfl) fun ρ hρ => by rw [hρ x _ hx]; exact hrun, false, [], rfl, .inl ⟨rfl, hr0, hst⟩⟩
  · have hst2 : St w0 { w1 with heap := w1.heap.setIfInBounds b (.mapIter (some bm) since (seen.push e.born) clock) } I (L.set i (b, .mapIter (some bm) since (seen.push e.born) clock)) := by
      refine hst1.put hL rfl rfl rfl (MapKept.heap_set (by rw [hheap]; exact hb)).1 fun j hj _ => (MapKept.heap_set (by rw [hheap]; exact hb)).2 j hj
    rw [hfl] at he
    -- which row it is
    have hmemR : (e.key, e.val) ∈ rest.map fun r => (enc r.1, r.2) := by rw [← hrest]; exact List.mem_map.2 ⟨e, he, rfl⟩
    have hes : e ∈ es.toList := (List.mem_filter.1 he).1
    -- split the list at e
    obtain ⟨A, B, hAB⟩ := List.append_of_mem he
    have hnf : ((es.toList.filter fun e => !seen.contains e.born).map (·.born)).Nodup := hnd.sublist (List.filter_sublist.map _)
    have hout : (es.toList.filter fun x => !(seen.push e.born).contains x.born) = A ++ B := by
      have h1 : (es.toList.filter fun x => !(seen.push e.born).contains x.born) = (es.toList.filter fun x => !seen.contains x.born).filter fun x => x.born != e.born := by
        rw [List.filter_filter]
        refine List.filter_congr fun x _ => ?_
        simp only [Array.contains_push]
        cases h : (x.born == e.born) <;> simp [bne, h]
      rw [h1, hAB]
      rw [hAB] at hnf
      simp only [List.map_append, List.map_cons] at hnf
      have hn1 := List.nodup_append.1 hnf
      have hn2 := List.nodup_cons.1 hn1.2.1
      rw [List.filter_append, List.filter_cons]
      simp only [bne_self_eq_false, Bool.false_eq_true, if_false]
      congr 1
      · refine List.filter_eq_self.2 fun x hx => ?_
        have : x.born ≠ e.born := hn1.2.2 _ (List.mem_map.2 ⟨x, hx, rfl⟩) _ (List.mem_cons_self ..)
        simpa using this
      · refine List.filter_eq_self.2 fun x hx => ?_
        have : x.born ≠ e.born := fun h => hn2.1 (by rw [← h]; exact List.mem_map.2 ⟨x, hx, rfl⟩)
        simpa using this
    rw [hAB] at hrest
    simp only [List.map_append, List.map_cons] at hrest
    obtain ⟨RA, RX, hR, hRA, hRX⟩ := List.map_eq_append_iff.1 hrest.symm
    obtain ⟨⟨k, u⟩, RB, rfl, hku, hRB⟩ := List.map_eq_cons_iff.1 hRX
    simp only [Prod.mk.injEq] at hku
    refine ⟨_, _, .of (fun ρ => Instr.next (ρ x) false ty) (fun _ _ _ _ _ => rfl) fun ρ hρ => by rw [hρ x _ hx]; exact hrun, true, [e.key, e.val], rfl, .inr ⟨rfl, k, u, RA ++ RB, _, ?_, hst2, ?_, ?_⟩⟩
    · rw [hR]; exact List.perm_middle
    · refine ⟨es, clock, since, seen.push e.born, clock, rfl, rfl, hold, hsk, hsk, hnd, ?_⟩
      · rw [hout, List.map_append, List.map_append, hRA, hRB]
    · exact ⟨es, clock, since, _, rfl, rfl, e, hes, by simp, hku.1.symm, hku.2.symm, hnd⟩
omit [DecidableEq κ] in
theorem runs_entryM {enc : κ → Value} {x : Operand} {b bm i j : Nat} {oI oM : Obj} {k : κ} {u : Value} (hx : ev l x = some (.pointer (some ⟨b, 0, none⟩))) (hst : St w0 w I L) (hL : L[i]? = some (b, oI)) (hM : L[j]? = some (bm, oM)) (hit : IterC enc bm oI oM k u) :
    Runs P (.entry x) ty l w (.value (.tuple [enc k, u].toArray)) w :=
  .of (fun ρ => Instr.entry (ρ x)) (fun _ _ _ _ _ => rfl) fun ρ hρ => by
    obtain ⟨es, clock, since, seen, rfl, rfl, e, he, hback, hk, hu, hn⟩ := hit
    have hb : w.heap[b]? = some (.mapIter (some bm) since seen clock) := hst.own _ (List.mem_of_getElem? hL)
    have hm : w.heap[bm]? = some (.map es clock) := hst.own _ (List.mem_of_getElem? hM)
    have hf : es.find? (·.born == e.born) = some e := by rw [← Array.find?_toList]; exact find_born e es.toList hn he
    rw [hρ x _ hx]
    simp only [Instr.entry, getObj, Sem.run_bind, Sem.run, hb, hm, Result.andThen, hback, bne_self_eq_false, Bool.false_eq_true, if_false, hf]
    rw [hk, hu]
    rfl
end
/-! ### Own blocks in another order -/
theorem perm_pick {α : Type} (cs : List (List α)) (is_ : List Nat) (h : is_.isPerm (List.range cs.length) = true) : cs.flatten.Perm ((is_.map (cs.getD · [])).flatten) := by
  have hp : is_.Perm (List.range cs.length) := List.isPerm_iff.1 h
  have h1 : (is_.map (cs.getD · [])).Perm ((List.range cs.length).map (cs.getD · [])) := hp.map _
  have h2 : (List.range cs.length).map (cs.getD · []) = cs := by
    apply List.ext_getElem
    · simp
    · intro i h3 h4
      simp at h3
      simp [h3]
  rw [h2] at h1
  exact h1.symm.flatten
end Go.Proofs.YtlmmpcdjkpibcaaX
