/- Parts of a proof, joined: walks through the program's functions and their laws, in the order in which they need each other. -/
import Derived.Test.YtadgbifmiooikaaGreatPCb
import Derived.Test.YtadgbifmiooikaaGreatPCa
import Derived.Laws.IdiomRangeMap
import Derived.Shelf.Sort.Plain
import Derived.Sort.EncStr
import Derived.Maps.Own
import Derived.Lib.SlKeysI
import Derived.Test.YtadgbifmiooikaaGreatSH
import Derived.Test.YtadgbifmiooikaaGreatSI
namespace Go.Proofs.YtadgbifmiooikaaGreatX
set_option linter.unusedVariables false
set_option linter.unusedSimpArgs false
open Go Go.RowKit
variable {w0 w : World} {I : Imm} {L : Own} {P : Program} {l : Env} {ty : TypeId} {N : Nat}
section
variable {κ : Type} [DecidableEq κ]
def IterM (enc : κ → Value) (bm : Nat) (oI oM : Obj) (rest : List (κ × Value)) : Prop := ∃ es clock since seen c0, oM = .map es clock ∧ oI = .mapIter (some bm) since seen c0 ∧ (∀ e ∈ es.toList, e.born < since) ∧ since ≤ c0 ∧ since ≤ clock ∧ (es.toList.map (·.born)).Nodup ∧
  (es.toList.filter fun e => !seen.contains e.born).map (fun e => (e.key, e.val)) = rest.map fun r => (enc r.1, r.2)
def IterC (enc : κ → Value) (bm : Nat) (oI oM : Obj) (k : κ) (u : Value) : Prop := ∃ es clock since seen, oM = .map es clock ∧ oI = .mapIter (some bm) since seen clock ∧ ∃ e ∈ es.toList, seen.back? = some e.born ∧ e.key = enc k ∧ e.val = u ∧ (es.toList.map (·.born)).Nodup
omit [DecidableEq κ] in
theorem runs_rangeM {enc : κ → Value} {t kt et : TypeId} {x : Operand} {bm j : Nat} {oM : Obj} {rows : List (κ × Value)} (ht : P.underlying t = some (.map kt et)) (hx : ev l x = some (.map (some bm))) (hst : St w0 w I L) (hL : L[j]? = some (bm, oM)) (hr : MapR enc oM rows) :
    ∃ v w', Runs P (.range t x) ty l w (.value v) w' ∧ ∃ b oI, v = .pointer (some ⟨b, 0, none⟩) ∧ St w0 w' I ((b, oI) :: L) ∧ IterM enc bm oI oM rows := by
  obtain ⟨es, clock, rfl, h1, h2, h3⟩ := hr; have hb : w.heap[bm]? = some (.map es clock) := hst.own _ (List.mem_of_getElem? hL); refine ⟨_, _, .of (fun ρ => Instr.range t (ρ x)) (fun _ _ _ _ _ => rfl) fun ρ hρ => by rw [hρ x _ hx]; exact run_range_map w t kt et bm es clock ht hb, _, _, rfl, hst.heap_new _, es, clock, clock, #[], clock, rfl, rfl, h2, Nat.le_refl _, Nat.le_refl _, h3, ?_⟩; have : (es.toList.filter fun e => !(#[] : Array Nat).contains e.born) = es.toList := List.filter_eq_self.2 (fun e _ => by simp); rw [this]; exact h1
def nextM : Bool → List Value → List Value
  | true, kv => .bool true :: kv
  | false, _ => [.bool false]
theorem nextM_0 (b : Bool) (kv : List Value) : (nextM b kv)[0]? = some (.bool b) := by cases b <;> rfl
omit [DecidableEq κ] in
theorem runs_nextM {enc : κ → Value} (hinj : ∀ a b, enc a = enc b → a = b) {x : Operand} {b bm i j : Nat} {oI oM : Obj} {rest : List (κ × Value)} (hx : ev l x = some (.pointer (some ⟨b, 0, none⟩))) (hst : St w0 w I L) (hL : L[i]? = some (b, oI)) (hM : L[j]? = some (bm, oM)) (hit : IterM enc bm oI oM rest) :
    ∃ v w', Runs P (.next x false) ty l w (.value v) w' ∧ ∃ g kv, v = .tuple (nextM g kv).toArray ∧ ((g = false ∧ rest = [] ∧ St w0 w' I L) ∨
      (g = true ∧ ∃ k u rest' oI', rest.Perm ((k, u) :: rest') ∧ St w0 w' I (L.set i (b, oI')) ∧ IterM enc bm oI' oM rest' ∧ IterC enc bm oI' oM k u)) := by
  obtain ⟨es, clock, since, seen, c0, rfl, rfl, hold, hsc, hsk, hnd, hrest⟩ := hit; have hb : w.heap[b]? = some (.mapIter (some bm) since seen c0) := hst.own _ (List.mem_of_getElem? hL); have hm : w.heap[bm]? = some (.map es clock) := hst.own _ (List.mem_of_getElem? hM)
  have hfl : (leftOf es seen).toList = es.toList.filter fun e => !seen.contains e.born := by unfold leftOf; simp
  have key : (leftOf es seen).size = 0 ∧ (Instr.next (.pointer (some ⟨b, 0, none⟩)) false ty).run P w = .ok (.tuple #[.bool false]) w ∨
      ∃ e ∈ (leftOf es seen).toList, ∃ w1 : World, St w0 w1 I L ∧ (Instr.next (.pointer (some ⟨b, 0, none⟩)) false ty).run P w = .ok (.tuple #[.bool true, e.key, e.val]) { w1 with heap := w1.heap.setIfInBounds b (.mapIter (some bm) since (seen.push e.born) clock) } ∧ w1.heap = w.heap := by
    simp only [Instr.next, getObj, Sem.run_bind, Sem.run, hb, hm, Result.andThen, next_test_false seen es since c0 hold hsc, Bool.false_eq_true, if_false]
    unfold leftOf
    have hmem : ∀ x ∈ (Array.filter (fun e => !seen.contains e.born) es).toList, x.born < since := fun x hx => hold x (by simp at hx ⊢; exact hx.1)
    generalize Array.filter (fun e => !seen.contains e.born) es = L' at hmem ⊢
    have e1 : L'.filter (fun x => decide (x.born < since)) = L' := Array.filter_eq_self.2 (fun x hx => by simpa using hmem x (by simpa using hx))
    have e2 : L'.filter (fun x => decide (x.born ≥ since)) = #[] := by
      rw [Array.filter_eq_empty_iff]; intro x hx; have := hmem x (by simpa using hx)
      simp
      omega
    simp only [e1, e2, Array.append_empty]
    by_cases h0 : L'.size = 0
    · left
      have : L' = #[] := Array.eq_empty_of_size_eq_zero h0; subst this; refine ⟨rfl, ?_⟩
      simp [choose, Sem.run, Question.forced]
    · right
      have hne : L'.isEmpty = false := by simp [Array.isEmpty, h0]
      simp only [hne, Bool.false_eq_true, if_false, Array.empty_append, Array.size_map]
      have hch : ∃ (j : Nat) (w1 : World), j < L'.size ∧ St w0 w1 I L ∧ w1.heap = w.heap ∧ (choose (Question.mapNext L'.size)).run P w = .ok j w1 := by
        by_cases hf : L'.size ≤ 1
        · exact ⟨0, w, by omega, hst, rfl, by simp [choose, Sem.run, Question.forced, hf]⟩
        · exact ⟨_, w.drew, Nat.mod_lt _ (by omega), hst.drewN, rfl, by
            simp only [choose, Sem.run, Question.forced, decide_eq_true_eq, hf, if_false, Question.cut]
            rfl⟩
      obtain ⟨j, w1, hj, hst1, hheap, hrun⟩ := hch; refine ⟨L'[j], by simp, w1, hst1, ?_, hheap⟩
      have hb1 : w1.heap[b]? = some (.mapIter (some bm) since seen c0) := by rw [hheap]; exact hb
      have hset : ∀ o' : Obj, (setObj b o').run P w1 = .ok () { w1 with heap := w1.heap.setIfInBounds b o' } := fun o' => by
        simp only [setObj, Sem.run, hb1]
      simp only [hrun, Array.getElem?_map, Array.getElem?_eq_getElem hj, Option.map_some, Sem.run_bind, hset, Result.andThen]
      rfl
  rcases key with ⟨h0, hrun⟩ | ⟨e, he, w1, hst1, hrun, hheap⟩
  · have hr0 : rest = [] := by
      have : (leftOf es seen).toList = [] := by rw [← List.length_eq_zero_iff, Array.length_toList]; exact h0
      rw [← hfl, this] at hrest
      cases rest with
      | nil => rfl
      | cons _ _ => simp at hrest
    exact ⟨_, w, .of (fun ρ => Instr.next (ρ x) false ty) (fun _ _ _ _ _ => rfl) fun ρ hρ => by rw [hρ x _ hx]; exact hrun, false, [], rfl, .inl ⟨rfl, hr0, hst⟩⟩
  · have hst2 : St w0 { w1 with heap := w1.heap.setIfInBounds b (.mapIter (some bm) since (seen.push e.born) clock) } I (L.set i (b, .mapIter (some bm) since (seen.push e.born) clock)) := by
      refine hst1.put hL rfl rfl rfl (MapKept.heap_set (by rw [hheap]; exact hb)).1 fun j hj _ => (MapKept.heap_set (by rw [hheap]; exact hb)).2 j hj
    rw [hfl] at he
    have hmemR : (e.key, e.val) ∈ rest.map fun r => (enc r.1, r.2) := by rw [← hrest]; exact List.mem_map.2 ⟨e, he, rfl⟩
    have hes : e ∈ es.toList := (List.mem_filter.1 he).1; obtain ⟨A, B, hAB⟩ := List.append_of_mem he; have hnf : ((es.toList.filter fun e => !seen.contains e.born).map (·.born)).Nodup := hnd.sublist (List.filter_sublist.map _)
    have hout : (es.toList.filter fun x => !(seen.push e.born).contains x.born) = A ++ B := by
      have h1 : (es.toList.filter fun x => !(seen.push e.born).contains x.born) = (es.toList.filter fun x => !seen.contains x.born).filter fun x => x.born != e.born := by
        rw [List.filter_filter]
        refine List.filter_congr fun x _ => ?_
        simp only [Array.contains_push]
        cases h : (x.born == e.born) <;> simp [bne, h]
      rw [h1, hAB]; rw [hAB] at hnf
      simp only [List.map_append, List.map_cons] at hnf
      have hn1 := List.nodup_append.1 hnf; have hn2 := List.nodup_cons.1 hn1.2.1; rw [List.filter_append, List.filter_cons]
      simp only [bne_self_eq_false, Bool.false_eq_true, if_false]
      congr 1
      · refine List.filter_eq_self.2 fun x hx => ?_
        have : x.born ≠ e.born := hn1.2.2 _ (List.mem_map.2 ⟨x, hx, rfl⟩) _ (List.mem_cons_self ..)
        simpa using this
      · refine List.filter_eq_self.2 fun x hx => ?_
        have : x.born ≠ e.born := fun h => hn2.1 (by rw [← h]; exact List.mem_map.2 ⟨x, hx, rfl⟩)
        simpa using this
    rw [hAB] at hrest
    simp only [List.map_append, List.map_cons] at hrest
    obtain ⟨RA, RX, hR, hRA, hRX⟩ := List.map_eq_append_iff.1 hrest.symm; obtain ⟨⟨k, u⟩, RB, rfl, hku, hRB⟩ := List.map_eq_cons_iff.1 hRX
    simp only [Prod.mk.injEq] at hku
    refine ⟨_, _, .of (fun ρ => Instr.next (ρ x) false ty) (fun _ _ _ _ _ => rfl) fun ρ hρ => by rw [hρ x _ hx]; exact hrun, true, [e.key, e.val], rfl, .inr ⟨rfl, k, u, RA ++ RB, _, ?_, hst2, ?_, ?_⟩⟩
    · rw [hR]; exact List.perm_middle
    · refine ⟨es, clock, since, seen.push e.born, clock, rfl, rfl, hold, hsk, hsk, hnd, ?_⟩
      · rw [hout, List.map_append, List.map_append, hRA, hRB]
    · exact ⟨es, clock, since, _, rfl, rfl, e, hes, by simp, hku.1.symm, hku.2.symm, hnd⟩
omit [DecidableEq κ] in
theorem runs_entryM {enc : κ → Value} {x : Operand} {b bm i j : Nat} {oI oM : Obj} {k : κ} {u : Value} (hx : ev l x = some (.pointer (some ⟨b, 0, none⟩))) (hst : St w0 w I L) (hL : L[i]? = some (b, oI)) (hM : L[j]? = some (bm, oM)) (hit : IterC enc bm oI oM k u) :
    Runs P (.entry x) ty l w (.value (.tuple [enc k, u].toArray)) w :=
  .of (fun ρ => Instr.entry (ρ x)) (fun _ _ _ _ _ => rfl) fun ρ hρ => by
    obtain ⟨es, clock, since, seen, rfl, rfl, e, he, hback, hk, hu, hn⟩ := hit; have hb : w.heap[b]? = some (.mapIter (some bm) since seen clock) := hst.own _ (List.mem_of_getElem? hL); have hm : w.heap[bm]? = some (.map es clock) := hst.own _ (List.mem_of_getElem? hM)
    have hf : es.find? (·.born == e.born) = some e := by rw [← Array.find?_toList]; exact find_born e es.toList hn he
    rw [hρ x _ hx]
    simp only [Instr.entry, getObj, Sem.run_bind, Sem.run, hb, hm, Result.andThen, hback, bne_self_eq_false, Bool.false_eq_true, if_false, hf]
    rw [hk, hu]
    rfl
end
end Go.Proofs.YtadgbifmiooikaaGreatX
namespace Go.Proofs.YtadgbifmiooikaaGreatX
set_option linter.unusedVariables false
set_option linter.unusedSimpArgs false
open Go Go.RowKit
variable {w0 w : World} {I : Imm} {L : Own} {P : Program} {l : Env} {ty : TypeId} {N : Nat}
section
variable {κ : Type} [DecidableEq κ]
def mdel : List (κ × Value) → κ → List (κ × Value)
  | [], _ => []
  | (a, u) :: r, k => if k = a then r else (a, u) :: mdel r k
theorem MRel.del {enc : κ → Value} {k : κ} : ∀ {es : List MapEntry} {rows : List (κ × Value)} (h : MRel enc es rows) (i j : Nat) (u : Value), mfind rows k i = some (j, u) → MRel enc (es.eraseIdx (j - i)) (mdel rows k)
  | [], [], _, _, _, _, hf => by cases hf
  | [], _ :: _, h, _, _, _, _ => by cases h
  | _ :: _, [], h, _, _, _, _ => by cases h
  | e :: es, (a, x) :: r, h, i, j, u, hf => by
    unfold MRel at h
    simp only [List.map_cons, List.cons.injEq, Prod.mk.injEq] at h
    unfold mfind at hf
    by_cases hk : k = a
    · rw [if_pos hk] at hf
      cases hf
      unfold mdel; rw [if_pos hk, Nat.sub_self, List.eraseIdx_cons_zero]; exact h.2
    · rw [if_neg hk] at hf; have hge := mfind_ge r k (i + 1) j u hf; have ih := MRel.del h.2 (i + 1) j u hf; unfold mdel; rw [if_neg hk, show j - i = (j - (i + 1)) + 1 by omega, List.eraseIdx_cons_succ]; unfold MRel at ih ⊢
      simp [ih, h.1]
theorem mfind_none {rows : List (κ × Value)} {k : κ} (h : mfind rows k 0 = none) : mdel rows k = rows := by
  have key : ∀ (rows : List (κ × Value)) (i : Nat), mfind rows k i = none → mdel rows k = rows := by
    intro rows
    induction rows with
    | nil => intro i _; rfl
    | cons p r ih =>
      obtain ⟨a, x⟩ := p; intro i hf; unfold mfind at hf
      by_cases hk : k = a
      · rw [if_pos hk] at hf; cases hf
      · rw [if_neg hk] at hf; unfold mdel; rw [if_neg hk, ih (i + 1) hf]
  exact key rows 0 h
omit [DecidableEq κ] in
theorem MapR.length {enc : κ → Value} {o : Obj} {rows : List (κ × Value)} (h : MapR enc o rows) : ∃ es clock, o = .map es clock ∧ es.size = rows.length := by
  obtain ⟨es, clock, rfl, h1, _⟩ := h; refine ⟨es, clock, rfl, ?_⟩; have := congrArg List.length h1
  simpa using this
theorem runs_lookupOk {enc : κ → Value} {t kt et : TypeId} {x y : Operand} {b i : Nat} {o : Obj} {rows : List (κ × Value)} {key : κ} {z : Value} {size bytes : Nat} (hK : KeyL P kt enc) (ht : P.underlying t = some (.map kt et)) (he : TI P et z size bytes)
    (hx : ev l x = some (.map (some b))) (hy : ev l y = some (enc key)) (hst : St w0 w I L) (hL : L[i]? = some (b, o)) (hr : MapR enc o rows) :
    Runs P (.lookup t x y true) ty l w (.value (.tuple #[(mget rows key).getD z, .bool (mget rows key).isSome])) w :=
  .of (fun ρ => Instr.lookup t (ρ x) (ρ y) true) (fun _ _ _ _ _ => rfl) fun ρ hρ => by
    obtain ⟨es, clock, rfl, h1, _, _⟩ := hr; have hb : w.heap[b]? = some (.map es clock) := hst.own _ (List.mem_of_getElem? hL)
    simp only [hρ x _ hx, hρ y _ hy, Instr.lookup, Sem.run_bind, run_underlying ht, Result.andThen, MapKept.run_getObj_map hb, hK.chk, hK.fnd w key _ _ h1, pure, Sem.run]
    rw [← mfind_get rows key 0]
    cases hf : mfind rows key 0 with
    | none => simp [he.run_zero, Sem.run_bind, Result.andThen, pure, Sem.run]
    | some p => simp [Sem.run_bind, Result.andThen, pure, Sem.run]
omit [DecidableEq κ] in
theorem runs_lenM {enc : κ → Value} {t kt et : TypeId} {x : Operand} {b i : Nat} {o : Obj} {rows : List (κ × Value)} (ht : P.underlying t = some (.map kt et)) (hx : ev l x = some (.map (some b))) (hst : St w0 w I L) (hL : L[i]? = some (b, o)) (hr : MapR enc o rows) :
    Runs P (.call ⟨.builtin .len, #[x], #[t]⟩) ty l w (.value (.int .i64 (rows.length : Nat))) w := by
  obtain ⟨es, clock, rfl, hz⟩ := hr.length; have hb : w.heap[b]? = some (.map es clock) := hst.own _ (List.mem_of_getElem? hL)
  have hrun : (Builtin.len_ #[t] ty #[.map (some b)]).run P w = .ok (.int .i64 (rows.length : Nat)) w := by
    unfold Builtin.len_
    simp [Sem.run_bind, run_underlying ht, Result.andThen, MapKept.run_getObj_map hb, pure, Sem.run, goInt, hz]
  exact Runs.bi (args := [x]) (vs := [.map (some b)]) (by simp [evs, hx]) fun consts => by simp only [builtin, Sem.run_bind, hrun]; rfl
theorem runs_delete {enc : κ → Value} {t t2 kt et : TypeId} {x y : Operand} {b i : Nat} {o : Obj} {rows : List (κ × Value)} {key : κ} (hK : KeyL P kt enc) (ht : P.underlying t = some (.map kt et))
    (hx : ev l x = some (.map (some b))) (hy : ev l y = some (enc key)) (hst : St w0 w I L) (hL : L[i]? = some (b, o)) (hr : MapR enc o rows) :
    ∃ v w', Runs P (.call ⟨.builtin .delete, #[x, y], #[t, t2]⟩) ty l w (.value v) w' ∧ ∃ o', St w0 w' I (L.set i (b, o')) ∧ MapR enc o' (mdel rows key) := by
  obtain ⟨es, clock, rfl, h1, h2, h3⟩ := hr; have hb : w.heap[b]? = some (.map es clock) := hst.own _ (List.mem_of_getElem? hL)
  have put : ∀ o', St w0 { w with heap := w.heap.setIfInBounds b o' } I (L.set i (b, o')) := fun o' =>
    hst.put hL rfl rfl rfl (MapKept.heap_set hb).1 fun j hj _ => (MapKept.heap_set hb).2 j hj
  have hf := hK.fnd w key _ _ h1
  cases hm : mfind rows key 0 with
  | none =>
    rw [hm] at hf
    have hrun : (Builtin.delete_ #[t, t2] ty #[.map (some b), enc key]).run P w = .ok (.tuple #[]) { w with heap := w.heap.setIfInBounds b (.map es clock) } := by
      unfold Builtin.delete_
      simp [Sem.run_bind, run_underlying ht, Result.andThen, MapKept.run_getObj_map hb, hK.chk, hf, MapKept.run_setObj_map _ hb, pure, Sem.run]
    exact ⟨_, _, Runs.bi (args := [x, y]) (vs := [.map (some b), enc key]) (by simp [evs, hx, hy]) (fun consts => by simp only [builtin, Sem.run_bind, hrun]; rfl), _, put _, es, clock, rfl, by rw [mfind_none hm]; exact h1, h2, h3⟩
  | some p =>
    obtain ⟨j, u0⟩ := p; rw [hm] at hf
    have hrun : (Builtin.delete_ #[t, t2] ty #[.map (some b), enc key]).run P w = .ok (.tuple #[]) { w with heap := w.heap.setIfInBounds b (.map (es.eraseIdxIfInBounds j) clock) } := by
      unfold Builtin.delete_
      simp [Sem.run_bind, run_underlying ht, Result.andThen, MapKept.run_getObj_map hb, hK.chk, hf, MapKept.run_setObj_map _ hb, pure, Sem.run]
    have hel : (es.eraseIdxIfInBounds j).toList = es.toList.eraseIdx j := by
      unfold Array.eraseIdxIfInBounds
      split
      · rw [Array.toList_eraseIdx]
      · rw [List.eraseIdx_of_length_le (by simpa using Nat.le_of_not_lt ‹_›)]
    refine ⟨_, _, Runs.bi (args := [x, y]) (vs := [.map (some b), enc key]) (by simp [evs, hx, hy]) (fun consts => by simp only [builtin, Sem.run_bind, hrun]; rfl), _, put _, es.eraseIdxIfInBounds j, clock, rfl, ?_, ?_, ?_⟩
    · rw [hel]; exact MRel.del h1 0 j u0 hm
    · intro e he; rw [hel] at he; exact h2 e (List.mem_of_mem_eraseIdx he)
    · rw [hel]; exact List.Nodup.sublist ((List.eraseIdx_sublist _ _).map _) h3
end
section
variable {α : Type}
def pget : List (Int × α) → Int → Option α
  | [], _ => none
  | (a, u) :: r, k => if k = a then some u else pget r k
def pput : List (Int × α) → Int → α → List (Int × α)
  | [], k, v => [(k, v)]
  | (a, u) :: r, k, v => if k = a then (a, v) :: r else (a, u) :: pput r k v
def pdel : List (Int × α) → Int → List (Int × α)
  | [], _ => []
  | (a, u) :: r, k => if k = a then r else (a, u) :: pdel r k
def rend (g : α → Value) (rows : List (Int × α)) : List (Int × Value) := rows.map fun r => (r.1, g r.2)
variable {g : α → Value}
theorem mget_rend (rows : List (Int × α)) (k : Int) : mget (rend g rows) k = (pget rows k).map g := by
  induction rows with
  | nil => rfl
  | cons p r ih =>
    obtain ⟨a, u⟩ := p; unfold rend at ih ⊢; rw [List.map_cons]; unfold mget pget
    split
    · rfl
    · exact ih
theorem mput_rend (rows : List (Int × α)) (k : Int) (v : α) : mput (rend g rows) k (g v) = rend g (pput rows k v) := by
  induction rows with
  | nil => rfl
  | cons p r ih =>
    obtain ⟨a, u⟩ := p; unfold rend at ih ⊢; rw [List.map_cons]; unfold mput pput
    split
    · rfl
    · rw [ih]; rfl
theorem mdel_rend (rows : List (Int × α)) (k : Int) : mdel (rend g rows) k = rend g (pdel rows k) := by
  induction rows with
  | nil => rfl
  | cons p r ih =>
    obtain ⟨a, u⟩ := p; unfold rend at ih ⊢; rw [List.map_cons]; unfold mdel pdel
    split
    · rfl
    · rw [ih]; rfl
theorem rend_keys (rows : List (Int × α)) : (rend g rows).map Prod.fst = rows.map Prod.fst := by
  unfold rend; rw [List.map_map]
  rfl
theorem rend_len (rows : List (Int × α)) : (rend g rows).length = rows.length := List.length_map _
theorem pget_none {rows : List (Int × α)} {k : Int} : pget rows k = none ↔ k ∉ rows.map Prod.fst := by
  induction rows with
  | nil => simp [pget]
  | cons p r ih =>
    obtain ⟨a, x⟩ := p; unfold pget
    by_cases h : k = a
    · subst h; simp
    · rw [if_neg h, ih]; simp [h]
theorem pget_mem {rows : List (Int × α)} {k : Int} {u : α} (h : pget rows k = some u) : (k, u) ∈ rows := by
  induction rows with
  | nil => cases h
  | cons p r ih =>
    obtain ⟨a, x⟩ := p; unfold pget at h
    by_cases e : k = a
    · rw [if_pos e] at h; cases h; subst e; exact List.mem_cons_self ..
    · rw [if_neg e] at h; exact List.mem_cons_of_mem _ (ih h)
theorem pput_keys (rows : List (Int × α)) (k : Int) (v : α) : (pput rows k v).map Prod.fst = if k ∈ rows.map Prod.fst then rows.map Prod.fst else rows.map Prod.fst ++ [k] := by
  induction rows with
  | nil => simp [pput]
  | cons p r ih =>
    obtain ⟨a, x⟩ := p; unfold pput
    by_cases h : k = a
    · subst h; simp
    · rw [if_neg h, List.map_cons, ih]
      by_cases h2 : k ∈ r.map Prod.fst
      · rw [if_pos h2, if_pos (by simp only [List.map_cons]; exact List.mem_cons_of_mem _ h2)]; rfl
      · rw [if_neg h2, if_neg (by simp only [List.map_cons, List.mem_cons, not_or]; exact ⟨h, h2⟩)]; rfl
theorem pput_nodup {rows : List (Int × α)} (hn : (rows.map Prod.fst).Nodup) (k : Int) (v : α) : ((pput rows k v).map Prod.fst).Nodup := by
  rw [pput_keys]
  split
  · exact hn
  · rename_i h
    refine List.nodup_append.2 ⟨hn, by simp, ?_⟩; intro a ha b hb e; rw [List.mem_singleton.1 hb] at e; exact h (by rw [← e]; exact ha)
theorem pdel_keys (rows : List (Int × α)) (k : Int) : (pdel rows k).map Prod.fst = (rows.map Prod.fst).erase k := by
  induction rows with
  | nil => rfl
  | cons p r ih =>
    obtain ⟨a, x⟩ := p; unfold pdel
    by_cases h : k = a
    · subst h; simp
    · rw [if_neg h, List.map_cons, ih, List.map_cons, List.erase_cons_tail (by simpa using fun e => h e.symm)]
theorem pdel_nodup {rows : List (Int × α)} (hn : (rows.map Prod.fst).Nodup) (k : Int) : ((pdel rows k).map Prod.fst).Nodup := by
  rw [pdel_keys]; exact hn.erase k
theorem pget_put (rows : List (Int × α)) (k : Int) (v : α) (k' : Int) : pget (pput rows k v) k' = if k' = k then some v else pget rows k' := by
  induction rows with
  | nil => simp [pput, pget]
  | cons p r ih =>
    obtain ⟨a, u⟩ := p; unfold pput
    by_cases h : k = a
    · subst h; rw [if_pos rfl]; unfold pget
      by_cases h2 : k' = k <;> simp [h2]
    · rw [if_neg h]; unfold pget; rw [ih]
      by_cases h2 : k' = a
      · subst h2; rw [if_pos rfl, if_pos rfl, if_neg (fun e => h e.symm)]
      · simp [h2]
theorem pget_del {rows : List (Int × α)} (hn : (rows.map Prod.fst).Nodup) (k k' : Int) : pget (pdel rows k) k' = if k' = k then none else pget rows k' := by
  induction rows with
  | nil => simp [pdel, pget]
  | cons p r ih =>
    obtain ⟨a, u⟩ := p; rw [List.map_cons, List.nodup_cons] at hn; unfold pdel
    by_cases h : k = a
    · subst h; rw [if_pos rfl]
      by_cases h2 : k' = k
      · rw [if_pos h2, h2, pget_none]; exact hn.1
      · rw [if_neg h2]
        conv => rhs; unfold pget
        rw [if_neg h2]
    · rw [if_neg h]; unfold pget; rw [ih hn.2]
      by_cases h2 : k' = a
      · subst h2; rw [if_pos rfl, if_pos rfl, if_neg (fun e => h e.symm)]
      · simp [h2]
theorem pget_some {rows : List (Int × α)} (hn : (rows.map Prod.fst).Nodup) {k : Int} {u : α} (h : (k, u) ∈ rows) : pget rows k = some u := by
  induction rows with
  | nil => cases h
  | cons p r ih =>
    obtain ⟨a, x⟩ := p; rw [List.map_cons, List.nodup_cons] at hn; unfold pget
    rcases List.mem_cons.1 h with e | h2
    · cases e; rw [if_pos rfl]
    · have hne : k ≠ a := fun e => hn.1 (by rw [← e]; exact List.mem_map.2 ⟨(k, u), h2, rfl⟩)
      rw [if_neg hne]; exact ih hn.2 h2
end
open Go.WideElems Go.Maps in
theorem MapR.owns {kt : TypeId} {b : Nat} {o : Obj} {rows : List (Int × Value)} (hk : P.underlying kt = some (.int .i64)) (hb : w.heap[b]? = some o) (hr : MapR kI o rows) (hn : (rows.map Prod.fst).Nodup) (hw : ∀ r ∈ rows, (Lit.int .i64 r.1).wf = true) (hs : rows.length ≤ maxLen) :
    ∃ D : DataW Unit, w.ownsMap P kt (fun _ => some (.nil, [])) b rows.length D ∧ (intKeys D).Perm (rows.map Prod.fst) ∧ Maps.size D = rows.length := by
  obtain ⟨es, clock, rfl, h1, h2, h3⟩ := hr
  have hko : ∀ n : Int, (Lit.int .i64 n).wf = true → keyOf P kt (kI n) = some (.int .i64 n) := fun n h => by simp [keyOf, hk, mapKey, kI, h]
  have key : ∀ (es : List MapEntry) (rows : List (Int × Value)), MRel kI es rows → (∀ r ∈ rows, (Lit.int .i64 r.1).wf = true) →
      es.map (rg (H := Unit) P kt (fun _ => some (.nil, []))) = rows.map (fun r => (Lit.int .i64 r.1, DataW.nil)) ∧ (∀ x ∈ es, ∃ y, rd (H := Unit) P kt (fun _ => some (.nil, [])) x = some y) ∧ es.map (·.key) = rows.map (fun r => kI r.1) := by
    intro es
    induction es with
    | nil => intro rows h _; cases rows with
      | nil => exact ⟨rfl, by simp, rfl⟩
      | cons p r => cases h
    | cons e es ih => intro rows h hw; cases rows with
      | nil => cases h
      | cons p r =>
        obtain ⟨a, x⟩ := p; unfold MRel at h
        simp only [List.map_cons, List.cons.injEq, Prod.mk.injEq] at h
        obtain ⟨i1, i2, i3⟩ := ih r h.2 (fun q hq => hw q (List.mem_cons_of_mem _ hq))
        have hrd : rd (H := Unit) P kt (fun _ => some (.nil, [])) e = some (Lit.int .i64 a, DataW.nil) := by
          unfold rd; rw [h.1.1, hko a (hw (a, x) (List.mem_cons_self ..))]
          rfl
        refine ⟨?_, ?_, ?_⟩
        · rw [List.map_cons, List.map_cons, i1, rg_of hrd]
        · intro y hy
          rcases List.mem_cons.1 hy with rfl | hy
          · exact ⟨_, hrd⟩
          · exact i2 y hy
        · rw [List.map_cons, List.map_cons, i3, h.1.1]
  obtain ⟨k1, k2, k3⟩ := key es.toList rows h1 hw
  have hz : es.size = rows.length := by have := congrArg List.length h1; simpa using this
  refine ⟨.map ((es.toList.map (rg P kt (fun _ => some (.nil, [])))).foldr DataW.insert []), ⟨es, clock, hb, ⟨by omega, ⟨h2, h3, ?_⟩, k2⟩, by omega, rfl⟩, ?_, ?_⟩
  · rw [k3]
    have : rows.map (fun r => kI r.1) = (rows.map Prod.fst).map kI := by rw [List.map_map]; rfl
    rw [this]; exact List.pairwise_map.2 (List.Pairwise.imp (fun {a b} hne e => hne (by simpa [kI] using e)) hn)
  · rw [k1]
    show ((((rows.map fun r => (Lit.int .i64 r.1, DataW.nil)).foldr DataW.insert []).map fun p : Lit × DataW Unit => Go.intOf p.1)).Perm _
    refine ((WideShapes.sorted_perm _).map _).trans ?_; rw [List.map_map]; exact List.Perm.refl _
  · rw [k1]
    show ((rows.map fun r => (Lit.int .i64 r.1, DataW.nil)).foldr DataW.insert []).length = _
    rw [length_sorted, List.length_map]
theorem St.belowAll {w' : World} (h : St w0 w I L) (hb : Below w.heap.size w w') : St w0 w' I L :=
  ⟨hb.os.trans h.os, hb.tape.trans h.tape, hb.output.trans h.out, fun b o hi => (hb.block b (h.lt hi)).trans (h.imm b o hi), fun p hp => (hb.block p.1 (h.lt_own hp)).trans (h.own p hp), h.sep, h.nd⟩
theorem St.ownsRow {w' : World} {e : TypeId} {v : Value} {n size : Nat} {xs : List Value} (h : St w0 w I L) (hb : Below w.heap.size w w') (ho : w'.ownsRow w.heap.size e size v n xs) (hone : ∀ u ∈ xs, u.oneCell' = true) : ∃ Lv, St w0 w' I (Lv ++ L) ∧ Grow e size v n xs Lv := by
  obtain ⟨h1, ⟨rfl, rfl⟩ | ⟨g, cap, cur, rfl, hg, hh, h2, h3, h4, h5⟩⟩ := ho
  · exact ⟨[], h.belowAll hb, h1, hone, .inl ⟨rfl, rfl, rfl⟩⟩
  · exact ⟨[(g, .cells cur e)], h.cons_new ⟨hb.os, hb.tape, hb.output, hb.size, fun k hk _ => hb.block k hk⟩ hg hh, h1, hone, .inr ⟨g, cap, cur, rfl, rfl, h2, h3, h4, h5⟩⟩
end Go.Proofs.YtadgbifmiooikaaGreatX
namespace Go.Proofs.YtadgbifmiooikaaGreatX
set_option linter.unusedVariables false
open Go Go.RowKit
variable {P : Program} {N : Nat} {ops : Array Oper} {F : World → Prop} {Qn : Act → World → Prop} {plan : Plan} {l : Env} {w : World}
theorem DRW.call_on {i d g t : Nat} {f : FuncId} {fo : Operand} {args : List Operand} {ats : Array TypeId} {ty : TypeId} {pos : String} {after : Array Edge} {vs : List Value} {R : Ending → World → Prop} {want b : Bool}
    (ho : ops[i]? = some ⟨some d, .call ⟨.value fo, args.toArray, ats⟩, ty, pos, after, some (g, want)⟩) (ht : (ops[g]?).bind (·.dst) = some t) (hv : l.get t = some (.bool b)) (htN : Nat.blt t N = true) (hb : b = want) (hd : Nat.blt d N = true) (hf : Callable P f) (hfo : ev l fo = some (.func (.func f) #[] #[])) (ha : evs l args = some vs) (hc : Calls P f vs.toArray w R)
    (h : ∀ e w', R e w' → ∃ v, e = .returned v ∧ F w' ∧ DRW P N ops F Qn plan ((d, v) :: l) w') : DRW P N ops F Qn (.l i plan) l w := fun a hon => by
  refine ⟨_, ho, ?_⟩; rw [if_pos (by rw [wanted_of hon rfl ht hv htN, hb]; exact beq_self_eq_true _)]; unfold Oper.wp; rw [runs_call hf hfo ha a.eval (fun x v => ev_on hon) (some d) pos after _]
  refine hc.mono fun e w' he => ?_
  obtain ⟨v, rfl, h1, h2⟩ := h e w' he; exact ⟨h1, h2 _ (Env.on_put hd hon)⟩
theorem DRW.l_off {i d g t : Nat} {o : Op} {ty : TypeId} {pos : String} {after : Array Edge} {want b : Bool} (ho : ops[i]? = some ⟨some d, o, ty, pos, after, some (g, want)⟩) (ht : (ops[g]?).bind (·.dst) = some t) (hv : l.get t = some (.bool b)) (htN : Nat.blt t N = true) (hb : b = !want) (hd : Nat.blt d N = true)
    (h : DRW P N ops F Qn plan ((d, undef) :: l) w) : DRW P N ops F Qn (.l i plan) l w := fun a ha => by
  refine ⟨_, ho, ?_⟩; rw [if_neg (by rw [wanted_of ha rfl ht hv htN, hb]; cases want <;> decide)]; exact h _ (Env.on_put hd ha)
end Go.Proofs.YtadgbifmiooikaaGreatX
namespace Go.Proofs.YtadgbifmiooikaaGreatX
set_option linter.unusedVariables false
open Go Go.RowKit
section
variable {P : Program} {ops : Array Oper} {md : Region.Mode}
def PV (P : Program) (ops : Array Oper) (Q : Act → World → Prop) : Plan → (World → Prop) → Act → World → Prop
  | .nil, _, a, w => Q a w
  | .q i r, F, a, w => ∃ o v, ops[i]? = some o ∧ YieldsF P ops F o v a ∧ PV P ops Q r F (a.put o.dst v) w
  | .l i r, F, a, w => ∃ o, ops[i]? = some o ∧ if Region.wanted o (yielded ops a.tmps) then o.wp P a w (fun a' w' => ∃ F' : World → Prop, (∀ w, F' w → F w) ∧ F' w' ∧ PV P ops Q r F' a' w') (onlyN Q) else PV P ops Q r F (a.put o.dst undef) w
  | .fork p q, F, a, w => PV P ops Q p F a w ∧ PV P ops Q q F a w
theorem PV.heads {F : World → Prop} {Q : Act → World → Prop} {a : Act} {w : World} : ∀ {p : Plan}, PV P ops Q p F a w → ∀ x ∈ p.heads, PV P ops Q (.l x.1 x.2) F a w
  | .nil, _, x, hx => by simp [Plan.heads] at hx
  | .q i p, _, x, hx => by simp [Plan.heads] at hx
  | .l i p, h, x, hx => by
    simp only [Plan.heads, List.mem_singleton] at hx
    subst hx; exact h
  | .fork p q, h, x, hx => by
    simp only [Plan.heads, List.mem_append] at hx
    exact hx.elim (PV.heads h.1 x) (PV.heads h.2 x)
theorem wpAnyF_monoF {F F' : World → Prop} {Q : Act → World → Prop} (hF : ∀ w, F' w → F w) : ∀ (n : Nat) (listed : Array Bool) (a : Act) (w : World), wpAnyF P md ops F' Q n listed a w → wpAnyF P md ops F Q n listed a w
  | 0, _, _, _, h => h
  | n + 1, _, _, _, h => ⟨h.1, fun i hi => wpOp_mono (fun a' w' h' => ⟨hF _ h'.1, wpAnyF_monoF hF n _ a' w' h'.2⟩) (h.2 i hi)⟩
theorem wpAnyF_of_planV {Q : Act → World → Prop} (hs : Region.noSelect ops = true) : ∀ (n : Nat) (plan : Plan) (F : World → Prop) (listed : Array Bool) (a : Act) (w : World), planOk md ops n plan listed = true → F w → PV P ops Q plan F a w →
    wpAnyF P md ops F Q n listed a w
  | 0, .nil, F, listed, a, w, hp, _, h => ⟨by simpa [planOk] using hp, h⟩
  | 0, .q i r, F, listed, a, w, hp, _, h => by simp [planOk] at hp
  | 0, .l i r, F, listed, a, w, hp, _, h => by simp [planOk] at hp
  | 0, .fork p q, F, listed, a, w, hp, _, h => by simp [planOk] at hp
  | n + 1, .nil, F, listed, a, w, hp, _, h => by simp [planOk] at hp
  | n + 1, .q i r, F, listed, a, w, hp, hF, h => by
    simp only [planOk, Bool.and_eq_true] at hp
    obtain ⟨⟨hr, hf⟩, hp'⟩ := hp; obtain ⟨o, v, ho, hy, hK⟩ := h; exact wpAnyF_first ho (Region.noSelect_spec hs) n listed a w hF (Region.free_spec ho hf) (by simpa using hr) hy (wpAnyF_of_planV hs n r F _ _ w hp' hF hK)
  | n + 1, .l i r, F, listed, a, w, hp, hF, h => by
    simp only [planOk, Bool.and_eq_true, beq_iff_eq] at hp
    obtain ⟨hr, hp'⟩ := hp; obtain ⟨o, ho, hK⟩ := h
    show _ ∧ _
    rw [hr]; refine ⟨fun h => absurd h (by simp), fun j hj => ?_⟩
    obtain rfl : j = i := by simpa using hj
    unfold wpOp
    simp only [ho]
    split
    · rename_i hw
      rw [if_pos hw] at hK; exact .inl (Oper.wp_mono (fun a' w' ⟨F', h1, h2, h3⟩ => ⟨h1 _ h2, wpAnyF_monoF h1 n _ a' w' (wpAnyF_of_planV hs n r F' _ a' w' hp' h2 h3)⟩) hK)
    · rename_i hw
      rw [if_neg hw] at hK; exact ⟨hF, wpAnyF_of_planV hs n r F _ _ w hp' hF hK⟩
  | n + 1, .fork p q, F, listed, a, w, hp, hF, h => by
    simp only [planOk, Bool.and_eq_true, beq_iff_eq, List.all_eq_true, Bool.not_eq_true', List.isEmpty_eq_false_iff] at hp
    obtain ⟨⟨hne, hr⟩, hp'⟩ := hp; have hh := PV.heads h
    generalize (Plan.fork p q).heads = hd at hr hp' hh hne
    refine ⟨fun hm => ?_, fun j hj => ?_⟩
    · rw [hr] at hm; exact absurd (by simpa using hm) hne
    · rw [hr] at hj; obtain ⟨x, hx, rfl⟩ := List.mem_map.1 hj; obtain ⟨o, ho, hK⟩ := hh x hx; have hpx := hp' x hx; unfold wpOp
      simp only [ho]
      split
      · rename_i hw
        rw [if_pos hw] at hK; exact .inl (Oper.wp_mono (fun a' w' ⟨F', h1, h2, h3⟩ => ⟨h1 _ h2, wpAnyF_monoF h1 n _ a' w' (wpAnyF_of_planV hs n x.2 F' _ a' w' hpx h2 h3)⟩) hK)
      · rename_i hw
        rw [if_neg hw] at hK; exact ⟨hF, wpAnyF_of_planV hs n x.2 F _ _ w hpx hF hK⟩
end
def DRV (P : Program) (N : Nat) (ops : Array Oper) (F : World → Prop) (Q : Act → World → Prop) (plan : Plan) (l : Env) (w : World) : Prop := ∀ a, l.on N a → PV P ops Q plan F a w
section
variable {P : Program} {N : Nat} {ops : Array Oper} {F : World → Prop} {Q : Exit → Act → World → Prop} {Qn : Act → World → Prop} {plan : Plan} {l : Env} {w : World}
theorem CW.drawF {id : Nat} {os : List Oper} (F : World → Prop) (plan : Plan) (hm : P.follows .mixedOrders = true) (hp : (Region.noSelect os.toArray && planOk .any os.toArray os.length plan (Array.replicate os.length false)) = true)
    (hF : F { w with drawn := w.drawn + 1 }) (h : DRV P N os.toArray F (fun a w => Q .normal a w) plan l { w with drawn := w.drawn + 1 }) : CW P N Q (.region id os.toArray true) l w := fun a ha => by
  simp only [Bool.and_eq_true] at hp
  refine wp_region_any hm (wpAny_of_F (F := F) (Q := fun a w => Q .normal a w) (fun _ _ h => h) _ _ _ _ ?_); have := wpAnyF_of_planV (P := P) (md := .any) hp.1 os.length plan F (Array.replicate os.length false) a _ hp.2 hF (h a ha)
  simpa using this
theorem FSt.lift {w0 : World} {I I' : Imm} {L : Own} (hI : I.le I') : ∀ w, FSt w0 I' L w → FSt w0 I L w := fun w ⟨J, h1, h2⟩ => ⟨J, hI.trans h1, h2⟩
theorem DRV.done (h : AQ N Q .normal l w) : DRV P N ops F (fun a w => Q .normal a w) .nil l w := fun a ha => h a ha
theorem DRV.fork {p q : Plan} (h1 : DRV P N ops F Qn p l w) (h2 : DRV P N ops F Qn q l w) : DRV P N ops F Qn (.fork p q) l w := fun a ha => ⟨h1 a ha, h2 a ha⟩
theorem DRV.q {i d : Nat} {o : Op} {ty : TypeId} {pos : String} {after : Array Edge} {v : Value} (ho : ops[i]? = some ⟨some d, o, ty, pos, after, none⟩) (hd : Nat.blt d N = true)
    (hr : ∀ w', F w' → Runs P o ty l w' (.value v) w') (h : DRV P N ops F Qn plan ((d, v) :: l) w) : DRV P N ops F Qn (.q i plan) l w := fun a ha =>
  ⟨_, v, ho, .inl ⟨rfl, fun w' hw' => hr w' hw' a.eval (fun x v => ev_on ha) (some d) pos after none⟩, h _ (Env.on_put hd ha)⟩
theorem DRV.q_on {i d g t : Nat} {o : Op} {ty : TypeId} {pos : String} {after : Array Edge} {v : Value} {want b : Bool} (ho : ops[i]? = some ⟨some d, o, ty, pos, after, some (g, want)⟩) (ht : (ops[g]?).bind (·.dst) = some t) (hv : l.get t = some (.bool b)) (htN : Nat.blt t N = true) (hb : b = want) (hd : Nat.blt d N = true)
    (hr : ∀ w', F w' → Runs P o ty l w' (.value v) w') (h : DRV P N ops F Qn plan ((d, v) :: l) w) : DRV P N ops F Qn (.q i plan) l w := fun a ha =>
  ⟨_, v, ho, .inl ⟨by rw [wanted_of ha rfl ht hv htN, hb]; exact beq_self_eq_true _, fun w' hw' => hr w' hw' a.eval (fun x v => ev_on ha) (some d) pos after _⟩, h _ (Env.on_put hd ha)⟩
theorem DRV.q_off {i d g t : Nat} {o : Op} {ty : TypeId} {pos : String} {after : Array Edge} {want b : Bool} (ho : ops[i]? = some ⟨some d, o, ty, pos, after, some (g, want)⟩) (ht : (ops[g]?).bind (·.dst) = some t) (hv : l.get t = some (.bool b)) (htN : Nat.blt t N = true) (hb : b = !want) (hd : Nat.blt d N = true)
    (h : DRV P N ops F Qn plan ((d, undef) :: l) w) : DRV P N ops F Qn (.q i plan) l w := fun a ha =>
  ⟨_, undef, ho, .inr ⟨by rw [wanted_of ha rfl ht hv htN, hb]; cases want <;> rfl, rfl⟩, h _ (Env.on_put hd ha)⟩
theorem DRV.split {t : Nat} {b : Bool} (hv : l.get t = some (.bool b)) (h1 : b = true → DRV P N ops F Qn plan l w) (h2 : b = false → DRV P N ops F Qn plan l w) : DRV P N ops F Qn plan l w := by
  cases b
  · exact h2 rfl
  · exact h1 rfl
theorem DRV.opE {i d : Nat} {o : Op} {ty : TypeId} {pos : String} {after : Array Edge} {Φ : Value → World → Prop} (ho : ops[i]? = some ⟨some d, o, ty, pos, after, none⟩) (hd : Nat.blt d N = true)
    (hr : ∃ v w', Runs P o ty l w (.value v) w' ∧ Φ v w') (h : ∀ v w', Φ v w' → ∃ F' : World → Prop, (∀ w, F' w → F w) ∧ F' w' ∧ DRV P N ops F' Qn plan ((d, v) :: l) w') : DRV P N ops F Qn (.l i plan) l w := fun a ha => by
  obtain ⟨v, w', h1, h2⟩ := hr; obtain ⟨F', h0, h3, h4⟩ := h v w' h2; refine ⟨_, ho, ?_⟩; rw [if_pos (by rfl)]; unfold Oper.wp; rw [h1 a.eval (fun x v => ev_on ha) (some d) pos after none]; exact ⟨F', h0, h3, h4 _ (Env.on_put hd ha)⟩
theorem DRV.op1 {i d : Nat} {o : Op} {ty : TypeId} {pos : String} {after : Array Edge} {v : Value} {w' : World} (ho : ops[i]? = some ⟨some d, o, ty, pos, after, none⟩) (hd : Nat.blt d N = true)
    (hr : Runs P o ty l w (.value v) w') (hF : F w') (h : DRV P N ops F Qn plan ((d, v) :: l) w') : DRV P N ops F Qn (.l i plan) l w :=
  DRV.opE (Φ := fun u w'' => u = v ∧ w'' = w') ho hd ⟨v, w', hr, rfl, rfl⟩ fun _ _ ⟨e1, e2⟩ => by subst e1; subst e2; exact ⟨F, fun _ h => h, hF, h⟩
theorem DRV.opE0 {i : Nat} {o : Op} {ty : TypeId} {pos : String} {after : Array Edge} {Φ : World → Prop} (ho : ops[i]? = some ⟨none, o, ty, pos, after, none⟩)
    (hr : ∃ w', Runs P o ty l w .skip w' ∧ Φ w') (h : ∀ w', Φ w' → ∃ F' : World → Prop, (∀ w, F' w → F w) ∧ F' w' ∧ DRV P N ops F' Qn plan l w') : DRV P N ops F Qn (.l i plan) l w := fun a ha => by
  obtain ⟨w', h1, h2⟩ := hr; obtain ⟨F', h0, h3, h4⟩ := h w' h2; refine ⟨_, ho, ?_⟩; rw [if_pos (by rfl)]; unfold Oper.wp; rw [h1 a.eval (fun x v => ev_on ha) none pos after none]; exact ⟨F', h0, h3, h4 _ ha⟩
theorem DRV.call {i d : Nat} {f : FuncId} {fo : Operand} {args : List Operand} {ats : Array TypeId} {ty : TypeId} {pos : String} {after : Array Edge} {vs : List Value} {R : Ending → World → Prop}
    (ho : ops[i]? = some ⟨some d, .call ⟨.value fo, args.toArray, ats⟩, ty, pos, after, none⟩) (hd : Nat.blt d N = true) (hf : Callable P f) (hfo : ev l fo = some (.func (.func f) #[] #[])) (ha : evs l args = some vs) (hc : Calls P f vs.toArray w R)
    (h : ∀ e w', R e w' → ∃ v, e = .returned v ∧ ∃ F' : World → Prop, (∀ w, F' w → F w) ∧ F' w' ∧ DRV P N ops F' Qn plan ((d, v) :: l) w') : DRV P N ops F Qn (.l i plan) l w := fun a hon => by
  refine ⟨_, ho, ?_⟩; rw [if_pos (by rfl)]; unfold Oper.wp; rw [runs_call hf hfo ha a.eval (fun x v => ev_on hon) (some d) pos after none]
  refine hc.mono fun e w' he => ?_
  obtain ⟨v, rfl, F', h0, h1, h2⟩ := h e w' he; exact ⟨F', h0, h1, h2 _ (Env.on_put hd hon)⟩
theorem DRV.call_on {i d g t : Nat} {f : FuncId} {fo : Operand} {args : List Operand} {ats : Array TypeId} {ty : TypeId} {pos : String} {after : Array Edge} {vs : List Value} {R : Ending → World → Prop} {want b : Bool}
    (ho : ops[i]? = some ⟨some d, .call ⟨.value fo, args.toArray, ats⟩, ty, pos, after, some (g, want)⟩) (ht : (ops[g]?).bind (·.dst) = some t) (hv : l.get t = some (.bool b)) (htN : Nat.blt t N = true) (hb : b = want) (hd : Nat.blt d N = true) (hf : Callable P f) (hfo : ev l fo = some (.func (.func f) #[] #[])) (ha : evs l args = some vs) (hc : Calls P f vs.toArray w R)
    (h : ∀ e w', R e w' → ∃ v, e = .returned v ∧ ∃ F' : World → Prop, (∀ w, F' w → F w) ∧ F' w' ∧ DRV P N ops F' Qn plan ((d, v) :: l) w') : DRV P N ops F Qn (.l i plan) l w := fun a hon => by
  refine ⟨_, ho, ?_⟩; rw [if_pos (by rw [wanted_of hon rfl ht hv htN, hb]; exact beq_self_eq_true _)]; unfold Oper.wp; rw [runs_call hf hfo ha a.eval (fun x v => ev_on hon) (some d) pos after _]
  refine hc.mono fun e w' he => ?_
  obtain ⟨v, rfl, F', h0, h1, h2⟩ := h e w' he; exact ⟨F', h0, h1, h2 _ (Env.on_put hd hon)⟩
theorem DRV.l_off {i d g t : Nat} {o : Op} {ty : TypeId} {pos : String} {after : Array Edge} {want b : Bool} (ho : ops[i]? = some ⟨some d, o, ty, pos, after, some (g, want)⟩) (ht : (ops[g]?).bind (·.dst) = some t) (hv : l.get t = some (.bool b)) (htN : Nat.blt t N = true) (hb : b = !want) (hd : Nat.blt d N = true)
    (h : DRV P N ops F Qn plan ((d, undef) :: l) w) : DRV P N ops F Qn (.l i plan) l w := fun a ha => by
  refine ⟨_, ho, ?_⟩; rw [if_neg (by rw [wanted_of ha rfl ht hv htN, hb]; cases want <;> decide)]; exact h _ (Env.on_put hd ha)
end
end Go.Proofs.YtadgbifmiooikaaGreatX
namespace Go.Proofs.YtadgbifmiooikaaGreatX
open Go
def within (v n : Int) : Int := if n < 1 then 0 else v % n
theorem within_range (v n : Int) : 0 ≤ within v n ∧ (1 ≤ n → within v n < n) := by
  unfold within
  split
  · omega
  · exact ⟨Int.emod_nonneg _ (by omega), fun _ => Int.emod_lt_of_pos _ (by omega)⟩
theorem within_of_tmod {v n : Int} (h : ¬ n < 1) (h' : ¬ v.tmod n < 0) : v.tmod n = within v n := by
  unfold within; rw [if_neg h]; have h0 := Int.emod_nonneg v (show n ≠ 0 by omega); have h1 := Int.emod_lt_of_pos v (show 0 < n by omega); have h2 := Int.tmod_eq_emod (a := v) (b := n)
  split at h2 <;> omega
theorem within_of_tmod_neg {v n : Int} (h : ¬ n < 1) (h' : v.tmod n < 0) : v.tmod n + n = within v n := by
  unfold within; rw [if_neg h]; have h0 := Int.emod_nonneg v (show n ≠ 0 by omega); have h1 := Int.emod_lt_of_pos v (show 0 < n by omega); have h2 := Int.tmod_eq_emod (a := v) (b := n)
  split at h2 <;> omega
theorem tmod_bound (v n : Int) (h : ¬ n < 1) : -n < v.tmod n ∧ v.tmod n < n := by
  rw [Int.tmod_eq_emod]; have := Int.emod_nonneg v (show n ≠ 0 by omega); have := Int.emod_lt_of_pos v (show 0 < n by omega)
  split <;> omega
def i64ok (n : Int) : Prop := -9223372036854775808 ≤ n ∧ n ≤ 9223372036854775807
def mayM (e s : Int) : Bool := decide (0 ≤ e) && (decide (e < 65536) && (decide (0 ≤ s) && decide (s < 16777216)))
def two (e : Int) : List UInt8 := [u8 (e / 2 ^ 8), u8 e]
def three (s : Int) : List UInt8 := [u8 (s / 2 ^ 16), u8 (s / 2 ^ 8), u8 s]
theorem two_length (e : Int) : (two e).length = 2 := rfl
theorem three_length (s : Int) : (three s).length = 3 := rfl
theorem beqB (a b : List UInt8) : (a == b) = decide (a = b) := by rw [Bool.eq_iff_iff]; simp
def sealB (e s p n : Int) (b : List UInt8) : List UInt8 :=
  two e ++ three s ++ [u8 p, u8 n, u8 b.length] ++ b ++ List.replicate (19 - b.length) 0 ++ three s ++ two e
def sealM (e s p n : Int) (b : List UInt8) : Bool := mayM e s && decide (0 ≤ p) && decide (p < n) && decide (n ≤ 255) && decide (b.length ≤ 19)
set_option linter.unusedSimpArgs false
set_option linter.unusedVariables false
open Go.Proofs Go.RowKit
set_option maxRecDepth 100000 in
set_option maxHeartbeats 1000000 in
theorem clone_spec {w0 w : World} {I : Imm} {L : Own} (hst : St w0 w I L) {v : Value} {bs : List UInt8} (hv : RdB I v bs) (hb : bs.length ≤ 140737488355328) :
    Calls Tryz.prog 70 #[v] w fun e w' => ∃ I' v', Imm.le I I' ∧ e = .returned v' ∧ St w0 w' I' L ∧ RdB I' v' (bs) := by
  have hv0 := hv; obtain ⟨h1, h2, A, cap, rfl, h3, h4⟩ := hv0; refine enter Tryz.func70 rfl (N := 8) rfl rfl ?_
  simp only [zA, zB, zC, zD, zE, Nat.reduceAdd]
  have hle := Imm.le.refl I; refine zR <| zS rfl rfl <| zM <| zk <| zR <| zm rfl rfl <| z1 rfl (runs_eq_nilslice Tryz.underlying52 rfl) <| zM <| zb rfl (fun hc4 => ?_) (fun hc4 => ?_)
  · have hcb4 := hc4; (try simp only [dY, dF] at hc4); refine zR <| zS rfl rfl <| zM <| CW.ret <| zr <| z9 rfl rfl ?_
    exact ⟨_, _, Imm.le.refl _, rfl, hst, by
      have : A = none := by simpa using hcb4
      subst this
      have h0 : bs = [] := by
        cases bs with
        | nil => rfl
        | cons c r => obtain ⟨a, h, _⟩ := h4 0 (b8 c) (by simp); cases h
      subst h0
      exact RdL.nil 1⟩
  · have hcb4 := hc4; (try simp only [dY, dF] at hc4); refine zj <| za <| zR <| ze rfl (runs_litB0 Tryz.underlying52 ti5 hst) ?_; clear hst; rintro u1 w ⟨Lv1, hst, hg1⟩; refine zm rfl rfl <| ze rfl (runs_appendB Tryz.underlying52 ti5 rfl rfl hst (by assumption) (by assumption) (by (try simp) <;> omega)) ?_; clear hst; rintro u2 w ⟨Lv2, hst, hg2⟩; refine zS rfl rfl <| zM <| CW.ret <| z9 rfl rfl ?_; obtain ⟨I', hI, hst, hr⟩ := GrowB.freeze hg2 hst; exact ⟨I', _, hI, rfl, hst, hr⟩
set_option maxRecDepth 100000 in
set_option maxHeartbeats 1000000 in
theorem within_spec {w0 w : World} {I : Imm} {L : Own} (hst : St w0 w I L) {v n : Int} (hv : i64ok v) (hn : i64ok n) :
    Calls Tryz.prog 12 #[.int .i64 v, .int .i64 n] w fun e w' => e = .returned (.int .i64 (within v n)) ∧ St w0 w' I L := by
  unfold i64ok at hv hn; refine enter Tryz.func12 rfl (N := 17) rfl rfl ?_
  simp only [zA, zB, zC, zD, zE, Nat.reduceAdd]
  have hle := Imm.le.refl I; refine zR <| zS rfl rfl <| zM <| zk <| zR <| zm rfl rfl <| z1 rfl (runs_lss rfl rfl) <| zM <| zb rfl (fun hc7 => ?_) (fun hc7 => ?_)
  · have hcb7 := hc7; (try simp only [dY, dF] at hc7); refine zR <| zS rfl rfl <| zM <| CW.ret <| zr <| z9 rfl rfl ?_; exact ⟨by unfold within; rw [if_pos hc7], hst⟩
  · have hcb7 := hc7; (try simp only [dY, dF] at hc7); have ht := tmod_bound v n hc7; refine zj <| za <| zR <| zm rfl rfl <| zm rfl rfl <| z1 rfl (runs_rem rfl rfl (by omega)) ?_; refine zS rfl rfl <| zM <| zk <| zR <| zm rfl rfl <| z1 rfl (runs_lss rfl rfl) <| zM <| zb rfl (fun hc12 => ?_) (fun hc12 => ?_)
    · have hcb12 := hc12; (try simp only [dY, dF] at hc12); refine zg <| zm rfl rfl <| zm rfl rfl <| z1 rfl (runs_add rfl rfl (by omega)) ?_; refine zS rfl rfl <| zN <| zm rfl rfl <| zS rfl rfl <| zM <| CW.ret <| z9 rfl rfl ?_; exact ⟨by rw [within_of_tmod_neg hc7 hc12], hst⟩
    · have hcb12 := hc12; (try simp only [dY, dF] at hc12); refine zj <| za <| zR <| zm rfl rfl <| zS rfl rfl <| zM <| CW.ret <| z9 rfl rfl ?_; exact ⟨by rw [within_of_tmod hc7 hc12], hst⟩
abbrev U36 := Tryz.underlying36
abbrev U38 := Tryz.underlying38
abbrev U40 := Tryz.underlying40
abbrev U54 := Tryz.underlying54
abbrev U62 := Tryz.underlying62
abbrev U71 := Tryz.underlying71
abbrev U78 := Tryz.underlying78
abbrev U88 := Tryz.underlying88
abbrev U92 := Tryz.underlying92
abbrev U101 := Tryz.underlying101
abbrev U111 := Tryz.underlying111
abbrev U124 := Tryz.underlying124
abbrev U161 := Tryz.underlying161
abbrev U186 := Tryz.underlying186
set_option maxRecDepth 100000 in
set_option maxHeartbeats 1000000 in
theorem may_spec {w0 w : World} {I : Imm} {L : Own} (hst : St w0 w I L) (e s : Int) :
    Calls Tryz.prog 108 #[.agg #[.int .i64 e, .int .i64 s]] w fun r w' => r = .returned (.bool (mayM e s)) ∧ St w0 w' I L := by
  refine enter Tryz.func108 rfl (N := 21) rfl rfl ?_
  simp only [zA, zB, zC, zD, zE, Nat.reduceAdd]
  have hle := Imm.le.refl I; refine zR <| ze rfl (runs_box rfl hst) ?_; clear hst; rintro _ w ⟨b1, rfl, hst⟩; refine zS rfl rfl <| zN <| zp rfl rfl U124 rfl ti3 rfl <| zl 0 rfl sc3 rfl hst rfl rfl <| z1 rfl (runs_geq rfl rfl) <| zm rfl rfl <| zi (t := 6) rfl (fun hb6 => ?_) (fun hb6 => ?_)
  · have hb6p := hb6; (try simp only [dY, dF] at hb6p); refine zo rfl rfl rfl rfl hb6 <| zp rfl rfl U124 rfl ti3 rfl <| zo rfl rfl rfl rfl hb6 <| zl 0 rfl sc3 rfl hst rfl rfl <| zo rfl rfl rfl rfl hb6 <| z1 rfl (runs_lss rfl rfl) <| zt rfl rfl hb6 rfl <| zm rfl rfl <| zi (t := 11) rfl (fun hb11 => ?_) (fun hb11 => ?_)
    · have hb11p := hb11; (try simp only [dY, dF] at hb11p); refine zo rfl rfl rfl rfl hb11 <| zp rfl rfl U124 rfl ti3 rfl <| zo rfl rfl rfl rfl hb11 <| zl 0 rfl sc3 rfl hst rfl rfl <| zo rfl rfl rfl rfl hb11 <| z1 rfl (runs_geq rfl rfl) <| zt rfl rfl hb11 rfl <| zm rfl rfl <| zi (t := 16) rfl (fun hb16 => ?_) (fun hb16 => ?_)
      · have hb16p := hb16; (try simp only [dY, dF] at hb16p); refine zo rfl rfl rfl rfl hb16 <| zp rfl rfl U124 rfl ti3 rfl <| zo rfl rfl rfl rfl hb16 <| zl 0 rfl sc3 rfl hst rfl rfl <| zo rfl rfl rfl rfl hb16 <| z1 rfl (runs_lss rfl rfl) <| zt rfl rfl hb16 rfl <| zS rfl rfl <| zM <| CW.ret ?_; refine z9 rfl rfl ?_; exact ⟨by unfold mayM; simp_all <;> omega, hst.drop1⟩
      · have hb16p := hb16; (try simp only [dY, dF] at hb16p); refine zH rfl rfl rfl rfl rfl rfl rfl rfl hb16 <| zn rfl rfl hb16 rfl <| zS rfl rfl <| zM <| CW.ret <| z9 rfl rfl ?_; exact ⟨by unfold mayM; simp_all <;> omega, hst.drop1⟩
    · have hb11p := hb11; (try simp only [dY, dF] at hb11p); refine zH rfl rfl rfl rfl rfl rfl rfl rfl hb11 <| zn rfl rfl hb11 rfl <| zm rfl rfl <| zH rfl rfl rfl rfl rfl rfl rfl rfl rfl <| zn rfl rfl rfl rfl <| zS rfl rfl <| zM <| CW.ret <| z9 rfl rfl ?_; exact ⟨by unfold mayM; simp_all <;> omega, hst.drop1⟩
  · have hb6p := hb6; (try simp only [dY, dF] at hb6p); refine zH rfl rfl rfl rfl rfl rfl rfl rfl hb6 <| zn rfl rfl hb6 rfl <| zm rfl rfl <| zH rfl rfl rfl rfl rfl rfl rfl rfl rfl <| zn rfl rfl rfl rfl <| zm rfl rfl <| zH rfl rfl rfl rfl rfl rfl rfl rfl rfl <| zn rfl rfl rfl rfl <| zS rfl rfl <| zM ?_; refine CW.ret ?_; refine z9 rfl rfl ?_; exact ⟨by unfold mayM; simp_all <;> omega, hst.drop1⟩
abbrev HRow := ByteArray × ByteArray
def hrow (r : HRow) : List Value := [.string r.1, .string r.2]
theorem hrow_len (r : HRow) : (hrow r).length = 2 := rfl
def RdH (I : Imm) (v : Value) (hs : List HRow) : Prop := RdL I 2 v hs.length (hs.flatMap hrow)
theorem hrow_at {rows : List HRow} {k : Nat} {r : HRow} (hr : rows[k]? = some r) : ∀ (j : Nat) (u : Value), (hrow r)[j]? = some u → (rows.flatMap hrow)[(k : Int).toNat * 2 + j]? = some u := by
  intro j u hj; have hj5 : j < 2 := (List.getElem?_eq_some_iff.1 hj).1; rw [Int.toNat_natCast, getElem?_flat hrow_len rows k j hj5, hr]; exact hj
end Go.Proofs.YtadgbifmiooikaaGreatX
namespace Go.Proofs.YtadgbifmiooikaaGreatX
set_option linter.unusedVariables false
set_option linter.unusedSimpArgs false
open Go Go.RowKit
variable {w0 w : World} {I : Imm} {L : Own} {P : Program} {l : Env} {ty : TypeId}
def hexL : List UInt8 := [48, 49, 50, 51, 52, 53, 54, 55, 56, 57, 65, 66, 67, 68, 69, 70]
def hexS : ByteArray := ⟨#[48, 49, 50, 51, 52, 53, 54, 55, 56, 57, 65, 66, 67, 68, 69, 70]⟩
def hexD (n : Nat) : UInt8 := hexL.getD n 0
def pctB (c : UInt8) : List UInt8 := [37, hexD (c.toNat / 16), hexD (c.toNat % 16)]
def otherL : List UInt8 := [34, 96, 35, 60, 62, 63, 123, 125]
def safeR (r : Nat) : Bool := decide (33 ≤ r) && (decide (r ≤ 126) && !decide (0 ≤ idxB otherL (u8 (r : Int))))
def encR (r : Nat) : List UInt8 := if safeR r then [u8 (r : Int)] else (encL (r : Int)).flatMap pctB
def encB (l : List UInt8) : List UInt8 := (runesL l).flatMap encR
theorem flat_len {α β : Type} {f : α → List β} {n : Nat} : ∀ (l : List α), (∀ x ∈ l, (f x).length ≤ n) → (l.flatMap f).length ≤ n * l.length
  | [], _ => by simp
  | a :: l, h => by
    rw [List.flatMap_cons, List.length_append, List.length_cons, Nat.mul_add, Nat.mul_one]; have h1 := h a (List.mem_cons_self ..)
    have h2 := flat_len l fun x hx => h x (List.mem_cons_of_mem _ hx)
    omega
theorem encR_len (r : Nat) : (encR r).length ≤ 12 := by
  unfold encR
  split
  · simp
  · have h := flat_len (f := pctB) (n := 3) (encL (r : Int)) (fun _ _ => by simp [pctB]); have := encL_len (r : Int); omega
theorem runesF_len : ∀ (n : Nat) (l : List UInt8), (runesF n l).length ≤ l.length
  | 0, l => by simp [runesF]
  | n + 1, l => by
    show (if l = [] then [] else _).length ≤ _
    split
    · simp
    · rename_i hl
      have hp : 0 < l.length := List.length_pos_iff.2 hl; have hw := decodeL_w l; have := runesF_len n (l.drop (Go.Lib.decodeL l).2); rw [List.length_drop] at this; rw [List.length_cons]; omega
theorem encB_len (l : List UInt8) : (encB l).length ≤ 12 * l.length := by
  have h := flat_len (f := encR) (n := 12) (runesL l) (fun r _ => encR_len r); have := runesF_len l.length l; unfold encB; unfold runesL at h ⊢; omega
theorem getD_byte {s : ByteArray} {i : Nat} (h : i < s.size) : s[i] = s.toList.getD i 0 := by
  have h2 : i < s.data.toList.length := by rw [Array.length_toList]; exact h
  rw [ByteArray.toList_eq, List.getD_eq_getElem?_getD, List.getElem?_eq_getElem h2]
  rfl
theorem runs_indexL {t : TypeId} {x y : Operand} {k : IntKind} {s : ByteArray} {i : Int} (ht : P.underlying t = some .string) (hx : ev l x = some (.string s)) (hy : ev l y = some (.int k i)) (h0 : 0 ≤ i) (h1 : i < s.size) :
    Runs P (.index t x y) ty l w (.value (b8 (s.toList.getD i.toNat 0))) w := by
  have h := runs_indexS (w := w) (ty := ty) ht hx hy h0 h1; rw [getD_byte] at h; exact h
theorem and15 (c : UInt8) : bitop .and .u8 (c.toNat : Int) 15 = ((c.toNat % 16 : Nat) : Int) := by
  have hc := c.toNat_lt
  show IntKind.u8.wrap (((BitVec.ofInt 8 (c.toNat : Int)) &&& (BitVec.ofInt 8 ((15 : Nat) : Int))).toNat : Int) = _
  rw [BitVec.ofInt_natCast, BitVec.ofInt_natCast, BitVec.toNat_and, BitVec.toNat_ofNat, BitVec.toNat_ofNat, Nat.mod_eq_of_lt (by omega), show 15 % 2 ^ 8 = 2 ^ 4 - 1 from rfl, Nat.and_two_pow_sub_one_eq_mod, IntKind.wrap_u8]; omega
theorem flat_take {f : UInt8 → List UInt8} {l : List UInt8} {j : Nat} (hj : j < l.length) : (l.take (j + 1)).flatMap f = (l.take j).flatMap f ++ f (l.getD j 0) := by
  rw [List.take_add_one, List.getElem?_eq_getElem hj, Option.toList_some, List.flatMap_append, List.flatMap_cons, List.flatMap_nil, List.append_nil]
  have : l.getD j 0 = l[j] := by simp [hj]
  rw [this]
theorem perm_two2 {α : Type} (x y : α) (A B : List α) : (x :: y :: (A ++ B)).Perm (A ++ (x :: y :: B)) := ((List.perm_middle (l₁ := A) (a := y) (l₂ := B)).symm.cons x).trans List.perm_middle.symm
theorem boolN {b : Bool} {P : Prop} [Decidable P] (h : b = true ↔ P) : some (Value.bool b) = some (Value.bool (decide P)) := by
  congr 2
  by_cases hp : P
  · rw [decide_eq_true hp]; exact h.2 hp
  · rw [decide_eq_false hp]; cases b with
    | false => rfl
    | true => exact absurd (h.1 rfl) hp
theorem safe_2 {r : Nat} (h : ¬ (r : Int) ≤ 126) : false = safeR r := by
  unfold safeR; rw [decide_eq_false (show ¬ r ≤ 126 by omega), Bool.false_and, Bool.and_false]
def trimL (l : List UInt8) : List UInt8 := l.dropWhile (fun c => decide (c.toNat ≤ 32))
def trimR : Nat → List UInt8 → List UInt8
  | 0, l => l
  | n + 1, l => if 0 < l.length ∧ (l.getD (l.length - 1) 0).toNat ≤ 32 then trimR n (l.take (l.length - 1)) else l
def trimB (l : List UInt8) : List UInt8 := trimR l.length (trimL l)
end Go.Proofs.YtadgbifmiooikaaGreatX
namespace Go.Proofs.YtadgbifmiooikaaGreatX
set_option linter.unusedVariables false
set_option linter.unusedSimpArgs false
open Go Go.RowKit
variable {w0 w : World} {I : Imm} {L : Own} {P : Program}
def SrcH (I : Imm) (L : Own) (v : Value) (hs : List HRow) : Prop := ∃ B c, v = .slice B hs.length c ∧ ∀ (w0 w : World) (I' : Imm) (L' : Own), I.le I' → (∀ p ∈ L, p ∈ L') → St w0 w I' L' → ∀ j u, (hs.flatMap hrow)[j]? = some u → ∃ a, B = some a ∧ w.cell? (a.add j) = some u
theorem RdH.srcH {v : Value} {hs : List HRow} (h : RdH I v hs) (L : Own) : SrcH I L v hs := by
  obtain ⟨_, _, A, c, rfl, _, h4⟩ := h; refine ⟨A, c, rfl, fun w0 w I' L' hI _ hst j u hj => ?_⟩; obtain ⟨a, h5, h6⟩ := h4 j u hj; exact ⟨a, h5, hst.cell_imm (hI.cell h6)⟩
theorem Grow.srcH {v : Value} {hs : List HRow} {Lv : Own} (hg : Grow 54 2 v hs.length (hs.flatMap hrow) Lv) (hsub : ∀ p ∈ Lv, p ∈ L) : SrcH I L v hs := by
  have hc := fun (w0 w : World) (I' : Imm) (L' : Own) (hL : ∀ p ∈ L, p ∈ L') (hst : St w0 w I' L') (j : Nat) (u : Value) (hj : (hs.flatMap hrow)[j]? = some u) => Grow.cell hg hst (fun p hp => hL p (hsub p hp)) hj
  obtain ⟨h1, _, ⟨rfl, h0, rfl⟩ | ⟨g, cap, cur, rfl, rfl, _⟩⟩ := hg
  · refine ⟨none, 0, by rw [h0], fun w0 w I' L' _ _ _ j u hj => ?_⟩; rw [List.eq_nil_of_length_eq_zero h0] at hj
    simp at hj
  · exact ⟨_, _, rfl, fun w0 w I' L' _ hL hst j u hj => ⟨_, rfl, hc w0 w I' L' hL hst j u hj⟩⟩
theorem SrcH.mono {v : Value} {hs : List HRow} (h : SrcH I L v hs) {I' : Imm} {L' : Own} (hI : I.le I') (hL : ∀ p ∈ L, p ∈ L') : SrcH I' L' v hs := by
  obtain ⟨B, c, e, h⟩ := h; exact ⟨B, c, e, fun w0 w I2 L2 h1 h2 hst j u hj => h w0 w I2 L2 (hI.trans h1) (fun p hp => h2 p (hL p hp)) hst j u hj⟩
theorem hrow_one (hs : List HRow) : ∀ u ∈ hs.flatMap hrow, u.oneCell' = true := by
  intro u hu; obtain ⟨r, _, h⟩ := List.mem_flatMap.1 hu
  simp only [hrow, List.mem_cons, List.not_mem_nil, or_false] at h
  rcases h with rfl | rfl <;> rfl
theorem flat_len2 (hs : List HRow) : (hs.flatMap hrow).length = hs.length * 2 := by
  induction hs with
  | nil => rfl
  | cons r t ih => rw [List.flatMap_cons, List.length_append, ih, hrow_len, List.length_cons]; omega
structure It where
  id : Int
  kind : Int
  group : Int
  name : ByteArray
  method : ByteArray
  url : ByteArray
  heads : List HRow
  body : ByteArray
  mode : Int
  creds : Int
  page : ByteArray
  csp : ByteArray
  refer : Int
  nurl : ByteArray
  nmethod : ByteArray
  nbody : ByteArray
  hops : Int
  tries : Int
  til : Int
  tainted : Bool
  got : ByteArray
  tag : ByteArray
  state : Int
  code : Int
  acked : Bool
abbrev itv (it : It) (vh : Value) : Value := .agg #[.int .i64 it.id, .int .i64 it.kind, .int .i64 it.group, .string it.name, .string it.method, .string it.url, vh, .string it.body, .int .i64 it.mode, .int .i64 it.creds, .string it.page, .string it.csp, .int .i64 it.refer, .string it.nurl, .string it.nmethod, .string it.nbody, .int .i64 it.hops, .int .i64 it.tries, .int .i64 it.til, .bool it.tainted, .string it.got, .string it.tag, .int .i64 it.state, .int .i64 it.code, .bool it.acked]
abbrev itC (it : It) (vh : Value) : List Value := [.int .i64 it.id, .int .i64 it.kind, .int .i64 it.group, .string it.name, .string it.method, .string it.url, vh, .string it.body, .int .i64 it.mode, .int .i64 it.creds, .string it.page, .string it.csp, .int .i64 it.refer, .string it.nurl, .string it.nmethod, .string it.nbody, .int .i64 it.hops, .int .i64 it.tries, .int .i64 it.til, .bool it.tainted, .string it.got, .string it.tag, .int .i64 it.state, .int .i64 it.code, .bool it.acked]
def zeroIt : It := ⟨0, 0, 0, .empty, .empty, .empty, [], .empty, 0, 0, .empty, .empty, 0, .empty, .empty, .empty, 0, 0, 0, false, .empty, .empty, 0, 0, false⟩
theorem it_one (it : It) {vh : Value} (h : vh.oneCell' = true) : [Value.int .i64 it.id, Value.int .i64 it.kind, Value.int .i64 it.group, Value.string it.name, Value.string it.method, Value.string it.url, vh, Value.string it.body, Value.int .i64 it.mode, Value.int .i64 it.creds, Value.string it.page, Value.string it.csp, Value.int .i64 it.refer, Value.string it.nurl, Value.string it.nmethod, Value.string it.nbody, Value.int .i64 it.hops, Value.int .i64 it.tries, Value.int .i64 it.til, Value.bool it.tainted, Value.string it.got, Value.string it.tag, Value.int .i64 it.state, Value.int .i64 it.code, Value.bool it.acked].all Value.oneCell' = true := by
  simp only [List.all_cons, h, List.all_nil]
  rfl
abbrev TRow := Int × (It × Value)
def trend (rows : List TRow) : List (Int × Value) := rend (fun p => itv p.1 p.2) rows
def TbO (I : Imm) (rows : List TRow) (next : Int) (bT : Nat) (Lt : Own) : Prop := ∃ bM oM, Lt = [(bT, .cells #[.map (some bM), .int .i64 next] 101), (bM, oM)] ∧ MapR kI oM (trend rows) ∧ (rows.map Prod.fst).Nodup ∧
  (∀ r ∈ rows, i64ok r.1 ∧ RdH I r.2.2 r.2.1.heads ∧ r.2.1.heads.length ≤ 100000000) ∧ i64ok next
theorem RdH.mono {I' : Imm} {v : Value} {hs : List HRow} (h : RdH I v hs) (hI : I.le I') : RdH I' v hs := RdL.mono hI h
theorem TbO.mono {I' : Imm} {rows : List TRow} {next : Int} {bT : Nat} {Lt : Own} (h : TbO I rows next bT Lt) (hI : I.le I') : TbO I' rows next bT Lt := by
  obtain ⟨bM, oM, e, h1, h2, h3, h4⟩ := h; exact ⟨bM, oM, e, h1, h2, fun r hr => ⟨(h3 r hr).1, (h3 r hr).2.1.mono hI, (h3 r hr).2.2⟩, h4⟩
theorem pput_mem {α : Type} {rows : List (Int × α)} {k : Int} {v : α} {r : Int × α} (h : r ∈ pput rows k v) : r = (k, v) ∨ r ∈ rows := by
  induction rows with
  | nil => exact .inl (by simpa [pput] using h)
  | cons p t ih =>
    obtain ⟨a, u⟩ := p; unfold pput at h
    by_cases hk : k = a
    · rw [if_pos hk] at h
      rcases List.mem_cons.1 h with e | h
      · exact .inl (by rw [e, hk])
      · exact .inr (List.mem_cons_of_mem _ h)
    · rw [if_neg hk] at h
      rcases List.mem_cons.1 h with e | h
      · exact .inr (by rw [e]; exact List.mem_cons_self ..)
      · exact (ih h).imp id (List.mem_cons_of_mem _)
theorem pdel_mem {α : Type} {rows : List (Int × α)} {k : Int} {r : Int × α} (h : r ∈ pdel rows k) : r ∈ rows := by
  induction rows with
  | nil => cases h
  | cons p t ih =>
    obtain ⟨a, u⟩ := p; unfold pdel at h
    by_cases hk : k = a
    · rw [if_pos hk] at h; exact List.mem_cons_of_mem _ h
    · rw [if_neg hk] at h
      rcases List.mem_cons.1 h with e | h
      · rw [e]; exact List.mem_cons_self ..
      · exact List.mem_cons_of_mem _ (ih h)
theorem wf_of {k : Int} (h : i64ok k) : (Lit.int .i64 k).wf = true := by
  unfold i64ok at h
  simp only [Lit.wf, Bool.and_eq_true, decide_eq_true_eq]
  exact h
def keysUp {α : Type} (rows : List (Int × α)) : List Int := (rows.map Prod.fst).mergeSort fun x y => decide (x ≤ y)
end Go.Proofs.YtadgbifmiooikaaGreatX
namespace Go.Proofs.YtadgbifmiooikaaGreatX
set_option linter.unusedVariables false
set_option linter.unusedSimpArgs false
open Go Go.RowKit Go.Proofs
set_option maxRecDepth 100000 in
set_option maxHeartbeats 1000000 in
theorem hclone_spec {w0 w : World} {I : Imm} {L : Own} (hst : St w0 w I L) {v : Value} {hs : List HRow} (hv : SrcH I L v hs) (hlen : hs.length ≤ 100000000) :
    Calls Tryz.prog 86 #[v] w fun e w' => ∃ v' Lv', e = .returned v' ∧ St w0 w' I (Lv' ++ L) ∧ Grow 54 2 v' (hs).length ((hs).flatMap hrow) Lv' := by
  obtain ⟨A, c, rfl, hsrc⟩ := hv; refine enter Tryz.func86 rfl (N := 8) rfl rfl ?_
  simp only [zA, zB, zC, zD, zE, Nat.reduceAdd]
  have hle := Imm.le.refl I; refine zR <| zS rfl rfl <| zM <| zk <| zR <| zm rfl rfl <| z1 rfl (runs_eq_nilslice Tryz.underlying34 rfl) <| zM <| zb rfl (fun hc4 => ?_) (fun hc4 => ?_)
  · have hcb4 := hc4; (try simp only [dY, dF] at hc4); refine zR <| zS rfl rfl <| zM <| CW.ret <| zr <| z9 rfl rfl ?_
    have h0 : A = none := by simpa using hcb4
    subst h0
    have h1 : hs = [] := by
      cases hs with
      | nil => rfl
      | cons r t => obtain ⟨a, h, _⟩ := hsrc w0 w I L (Imm.le.refl _) (fun p hp => hp) hst 0 (.string r.1) rfl; cases h
    subst h1; exact ⟨_, [], rfl, hst, Grow.nil _ _⟩
  · have hcb4 := hc4; (try simp only [dY, dF] at hc4); refine zj <| za <| zR <| ze rfl (runs_litF (xs := []) (size := 2) Tryz.underlying34 ti54 (by decide) rfl rfl rfl rfl rfl hst (by decide)) ?_; clear hst; rintro u1 w ⟨Lv1, hst, hg1⟩; have hsr2 := hsrc w0 w I (Lv1 ++ L) (Imm.le.refl _) (fun p hp => List.mem_append_right _ hp) hst; have hg5 := hg1; refine zm rfl rfl <| ze rfl (runs_appendG Tryz.underlying34 ti54 rfl (by decide) rfl rfl hst hg5 (flat_len2 hs) hsr2 (hrow_one hs) (by omega) (by unfold maxLen; omega)) ?_; clear hst; rintro u2 w ⟨Lv2, hst, hg2⟩; refine zS rfl rfl <| zM <| CW.ret <| z9 rfl rfl ?_; refine ⟨_, _, rfl, hst, ?_⟩
    simpa using hg2
set_option maxRecDepth 100000 in
set_option maxHeartbeats 1000000 in
theorem own_spec {w0 w : World} {I : Imm} {L : Own} (hst : St w0 w I L) {it : It} {vh : Value} (hv : SrcH I L vh it.heads) (hlen : it.heads.length ≤ 100000000) :
    Calls Tryz.prog 56 #[itv it vh] w fun e w' => ∃ v' Lv', e = .returned (itv it v') ∧ St w0 w' I (Lv' ++ L) ∧ v'.oneCell' = true ∧ Grow 54 2 v' (it.heads).length ((it.heads).flatMap hrow) Lv' := by
  have hv0 := hv; obtain ⟨A, c, rfl, _⟩ := hv0; refine enter Tryz.func56 rfl (N := 10) rfl rfl ?_
  simp only [zA, zB, zC, zD, zE, Nat.reduceAdd]
  have hle := Imm.le.refl I; refine zR <| ze rfl (runs_box rfl hst) ?_; clear hst; rintro _ w ⟨b1, rfl, hst⟩; refine ze rfl (runs_alloc ti40 hst) ?_; clear hst; rintro _ w ⟨b2, rfl, hst⟩; refine zN <| zp rfl rfl U40 rfl ti36 rfl <| zp rfl rfl U36 rfl ti34 rfl <| zl 1 rfl sc34 rfl hst rfl rfl <| zK rfl call86 rfl rfl (hclone_spec hst (hv.mono (Imm.le.refl _) (fun p hp => List.mem_cons_of_mem _ (List.mem_cons_of_mem _ hp))) hlen) ?_; clear hst; rintro e w ⟨v6, Lv6, rfl, hst, hg6⟩; replace hst := hst.perm (List.perm_middle.trans (List.Perm.cons _ List.perm_middle))
  have hv6 : v6.oneCell' = true := by obtain ⟨_, _, ⟨rfl, _⟩ | ⟨g, cap, cur, rfl, _⟩⟩ := hg6 <;> rfl
  refine ⟨_, rfl, ?_⟩; refine zp rfl rfl U40 rfl ti36 rfl <| zp rfl rfl U36 rfl ti34 rfl <| z0 (runs_store1P ti34 rfl rfl hst (k := 1) rfl rfl (NoFz.zero _) hv6) ?_; clear hst; rintro w hst; (try simp only [sZ, sS] at hst); refine zN <| z1 rfl (runs_loadN (vs := _) ag40 ti40 rfl hst (k := 1) rfl rfl rfl) ?_; refine z0 (runs_storeW ti40 rfl rfl hst (k := 0) rfl rfl rfl (NoFz.zero _) (it_one it hv6)) ?_; clear hst; rintro w hst; (try simp only [sZ, sS] at hst); refine zM <| CW.ret <| AQ.retS rfl rfl (hst.loadN (vs := [_, _, _, _, _, _, _, _, _, _, _, _, _, _, _, _, _, _, _, _, _, _, _, _, _]) (k := 0) ag40 ti40 rfl rfl rfl) ?_; exact ⟨v6, Lv6, rfl, hst.drop1.drop1, hv6, hg6⟩
def nextR (next id : Int) : Int := if IntKind.i64.wrap (id + 1) > next then IntKind.i64.wrap (id + 1) else next
theorem wrapT_ok (n : Int) : i64ok (IntKind.i64.wrap n) := by rw [IntKind.wrap_i64]; unfold i64ok; omega
theorem nextR_ok {next id : Int} (h : i64ok next) : i64ok (nextR next id) := by
  unfold nextR
  split
  · exact wrapT_ok _
  · exact h
theorem nextR_of {next id : Int} (h : i64ok (id + 1)) : nextR next id = if id + 1 > next then id + 1 else next := by
  have : IntKind.i64.wrap (id + 1) = id + 1 := by unfold i64ok at h; rw [IntKind.wrap_i64]; omega
  unfold nextR; rw [this]
theorem mget_t (rows : List TRow) (k : Int) : mget (trend rows) k = (pget rows k).map fun p => itv p.1 p.2 := mget_rend rows k
theorem mput_t (rows : List TRow) (k : Int) (it : It) (v : Value) : mput (trend rows) k (itv it v) = trend (pput rows k (it, v)) := mput_rend (g := fun p : It × Value => itv p.1 p.2) rows k (it, v)
theorem mdel_t (rows : List TRow) (k : Int) : mdel (trend rows) k = trend (pdel rows k) := mdel_rend rows k
set_option maxRecDepth 100000 in
set_option maxHeartbeats 1000000 in
theorem tnew_spec {w0 w : World} {I : Imm} {L : Own} (hst : St w0 w I L) :
    Calls Tryz.prog 47 #[] w fun e w' => ∃ bT Lt, e = .returned (.pointer (some ⟨bT, 0, none⟩)) ∧ St w0 w' I (Lt ++ L) ∧ TbO I [] 1 bT Lt := by
  refine enter Tryz.func47 rfl (N := 4) rfl rfl ?_
  simp only [zA, zB, zC, zD, zE, Nat.reduceAdd]
  have hle := Imm.le.refl I; refine zR <| zS rfl rfl <| zN <| ze rfl (runs_makeMap hst) ?_; clear hst; rintro _ w ⟨b1, rfl, hst⟩; refine z1 rfl (runs_buildF (cells := [_, _]) bz101 rfl rfl rfl rfl rfl) <| ze rfl (runs_box rfl hst) ?_; clear hst; rintro _ w ⟨b2, rfl, hst⟩; refine zS rfl rfl <| zM <| CW.ret <| z9 rfl rfl ?_; exact ⟨b2, [_, _], rfl, hst, b1, _, rfl, MapR.empty kI, List.nodup_nil, by simp, by unfold i64ok; decide⟩
set_option maxRecDepth 100000 in
set_option maxHeartbeats 1000000 in
theorem put_spec {w0 w : World} {I : Imm} {L : Own} {rows : List TRow} {next : Int} {bT : Nat} {Lt : Own} (hd : TbO I rows next bT Lt) (hst : St w0 w I (Lt ++ L)) {it : It} {vh : Value} (hv : SrcH I L vh it.heads) (hlen : it.heads.length ≤ 100000000) (hid : i64ok it.id) :
    Calls Tryz.prog 75 #[.pointer (some ⟨bT, 0, none⟩), itv it vh] w fun e w' => ∃ I' v' Lt', I.le I' ∧ e = .returned (.tuple #[]) ∧ St w0 w' I' (Lt' ++ L) ∧ TbO I' (pput rows it.id (it, v')) (nextR next it.id) bT Lt' := by
  obtain ⟨bM, oM, rfl, hm, hnd, hrows, hnx⟩ := hd; have hv0 := hv; obtain ⟨A, c, rfl, _⟩ := hv0; refine enter Tryz.func75 rfl (N := 23) rfl rfl ?_
  simp only [zA, zB, zC, zD, zE, Nat.reduceAdd]
  have hle := Imm.le.refl I; refine zR <| ze rfl (runs_box rfl hst) ?_; clear hst; rintro _ w ⟨b1, rfl, hst⟩; refine zM <| zk ?_; refine CW.draw (FSt w0 I ((b1, _) :: (bT, Obj.cells #[.map (some bM), .int .i64 next] 101) :: L)) (.q 0 (.q 1 (.q 2 (.q 3 (.q 4 (.q 5 (.q 6 (.l 7 (.l 8 .nil))))))))) follows (by kernel_rfl) ⟨_, Imm.le.refl _, hst.draw.sub (((List.sublist_cons_self _ _).cons_cons _).cons_cons _)⟩ ?_; replace hst := hst.draw; refine ym rfl rfl rfl <| yc rfl rfl rfl <| yp rfl rfl rfl U101 rfl ti47 rfl <| yl 1 rfl rfl sc47 rfl rfl rfl <| yp rfl rfl rfl U40 rfl ti3 rfl <| yl 0 rfl rfl sc3 rfl rfl rfl <| DRW.q rfl rfl (FSt.loadN (vs := _) ag40 ti40 rfl (k := 0) rfl rfl rfl) ?_; refine yC rfl rfl call56 rfl rfl (own_spec hst (hv.mono (Imm.le.refl _) (fun p hp => by simp [hp])) hlen) ?_; clear hst; rintro e w ⟨v11, Lv11, rfl, hst, hv11, hg11⟩; obtain ⟨J, hJ, hstn, hfz⟩ := hg11.freeze hst; clear hst; have hst := hstn; clear hstn; replace hle := hle.trans hJ; refine ⟨_, rfl, FSt.of hst hJ (((List.sublist_cons_self _ _).cons_cons _).cons_cons _), ?_⟩; refine y0 rfl (runs_mapUpdate (i := 2) (keyI Tryz.underlying3) Tryz.underlying47 rfl rfl rfl hst rfl hm) ?_; clear hst; rintro w ⟨o8, hst, hm8⟩; refine ⟨FSt.of hst hJ (((List.sublist_cons_self _ _).cons_cons _).cons_cons _), ?_⟩; (try simp only [sZ, sS] at hst); refine DRW.done <| za ?_; refine CW.draw (fun _ => True) (.q 0 (.q 1 (.q 2 (.q 3 (.q 5 (.fork (.l 4 (.l 6 (.q 7 (.q 8 (.q 9 (.q 10 (.l 11 .nil))))))) (.l 6 (.q 7 (.l 4 (.q 8 (.q 9 (.q 10 (.l 11 .nil))))))))))))) follows (by kernel_rfl) trivial ?_; replace hst := hst.draw; refine ym rfl rfl rfl <| ym rfl rfl rfl <| yc rfl rfl rfl <| yp rfl rfl rfl U101 rfl ti3 rfl <| yp rfl rfl rfl U40 rfl ti3 rfl <| DRW.fork ?_ ?_
  · refine DRW.op1 rfl rfl (runs_load1 sc3 rfl (hst.cell_own (k := 1) rfl rfl)) trivial ?_; refine DRW.op1 rfl rfl (runs_load1 sc3 rfl (hst.cell_own (k := 0) rfl rfl)) trivial ?_; refine DRW.q rfl rfl (fun w' hF => runs_addW rfl rfl) ?_; refine DRW.q rfl rfl (fun w' hF => runs_max rfl rfl) ?_; refine yc rfl rfl rfl <| yp rfl rfl rfl U101 rfl ti3 rfl <| y0 rfl (runs_store1P ti3 rfl rfl hst (k := 1) rfl rfl (NoFz.zero _) rfl) ?_; clear hst; rintro w hst; (try simp only [sZ, sS] at hst); refine ⟨trivial, ?_⟩; refine DRW.done <| AQ.end0 rfl ?_; rw [mput_t] at hm8; refine ⟨J, v11, [_, _], hle, rfl, hst.drop1, bM, o8, rfl, hm8, pput_nodup hnd _ _, fun r hr => ?_, nextR_ok hnx⟩
    rcases pput_mem hr with rfl | hr
    · exact ⟨hid, hfz, hlen⟩
    · exact ⟨(hrows r hr).1, (hrows r hr).2.1.mono hJ, (hrows r hr).2.2⟩
  refine DRW.op1 rfl rfl (runs_load1 sc3 rfl (hst.cell_own (k := 0) rfl rfl)) trivial ?_; refine DRW.q rfl rfl (fun w' hF => runs_addW rfl rfl) ?_; refine DRW.op1 rfl rfl (runs_load1 sc3 rfl (hst.cell_own (k := 1) rfl rfl)) trivial ?_; refine DRW.q rfl rfl (fun w' hF => runs_max rfl rfl) ?_; refine yc rfl rfl rfl <| yp rfl rfl rfl U101 rfl ti3 rfl <| y0 rfl (runs_store1P ti3 rfl rfl hst (k := 1) rfl rfl (NoFz.zero _) rfl) ?_; clear hst; rintro w hst; (try simp only [sZ, sS] at hst); refine ⟨trivial, ?_⟩; refine DRW.done <| AQ.end0 rfl ?_; rw [mput_t] at hm8; refine ⟨J, v11, [_, _], hle, rfl, hst.drop1, bM, o8, rfl, hm8, pput_nodup hnd _ _, fun r hr => ?_, nextR_ok hnx⟩
  rcases pput_mem hr with rfl | hr
  · exact ⟨hid, hfz, hlen⟩
  · exact ⟨(hrows r hr).1, (hrows r hr).2.1.mono hJ, (hrows r hr).2.2⟩
set_option maxRecDepth 100000 in
set_option maxHeartbeats 1000000 in
theorem next_spec {w0 w : World} {I : Imm} {L : Own} {rows : List TRow} {next : Int} {bT : Nat} {Lt : Own} (hd : TbO I rows next bT Lt) (hst : St w0 w I (Lt ++ L)) :
    Calls Tryz.prog 31 #[.pointer (some ⟨bT, 0, none⟩)] w fun e w' => e = .returned (.int .i64 next) ∧ St w0 w' I (Lt ++ L) := by
  obtain ⟨bM, oM, rfl, hm, hnd, hrows, hnx⟩ := hd; refine enter Tryz.func31 rfl (N := 7) rfl rfl ?_
  simp only [zA, zB, zC, zD, zE, Nat.reduceAdd]
  have hle := Imm.le.refl I; refine zR <| zS rfl rfl <| zN <| zm rfl rfl <| z1 rfl (runs_nilCheck rfl) <| zp rfl rfl U101 rfl ti3 rfl <| zl 0 rfl sc3 rfl hst rfl rfl <| zS rfl rfl <| zM <| CW.ret ?_; refine z9 rfl rfl ?_; exact ⟨rfl, hst⟩
set_option maxRecDepth 100000 in
set_option maxHeartbeats 1000000 in
theorem drop_spec {w0 w : World} {I : Imm} {L : Own} {rows : List TRow} {next : Int} {bT : Nat} {Lt : Own} (hd : TbO I rows next bT Lt) (hst : St w0 w I (Lt ++ L)) (id : Int) :
    Calls Tryz.prog 76 #[.pointer (some ⟨bT, 0, none⟩), .int .i64 id] w fun e w' => ∃ Lt', e = .returned (.bool (pget rows id).isSome) ∧ St w0 w' I (Lt' ++ L) ∧ TbO I (pdel rows id) next bT Lt' := by
  obtain ⟨bM, oM, rfl, hm, hnd, hrows, hnx⟩ := hd
  obtain ⟨it, vh, hq, hvh⟩ : ∃ it vh, ((mget (trend rows) id).getD (itv zeroIt (.slice none 0 0))) = itv it vh ∧ vh.oneCell' = true := by
    rw [mget_t]
    cases hp : pget rows id with
    | none => exact ⟨_, _, rfl, rfl⟩
    | some p =>
      obtain ⟨it, vh⟩ := p; have h2 := (hrows _ (pget_mem hp)).2.1; exact ⟨it, vh, rfl, RdL.one h2⟩
  refine enter Tryz.func76 rfl (N := 22) rfl rfl ?_
  simp only [zA, zB, zC, zD, zE, Nat.reduceAdd]
  have hle := Imm.le.refl I; refine zR <| zS rfl rfl <| zN <| zm rfl rfl <| z1 rfl (runs_nilCheck rfl) <| zp rfl rfl U101 rfl ti47 rfl <| zl 0 rfl sc47 rfl hst rfl rfl <| zm rfl rfl <| z1 rfl (runs_lookupOk (i := 1) (keyI Tryz.underlying3) Tryz.underlying47 ti40 rfl rfl hst rfl hm) ?_; rw [show (Value.agg #[.int .i64 0, .int .i64 0, .int .i64 0, .string .empty, .string .empty, .string .empty, .slice none 0 0, .string .empty, .int .i64 0, .int .i64 0, .string .empty, .string .empty, .int .i64 0, .string .empty, .string .empty, .string .empty, .int .i64 0, .int .i64 0, .int .i64 0, .bool false, .string .empty, .string .empty, .int .i64 0, .int .i64 0, .bool false]) = itv zeroIt (.slice none 0 0) from rfl, hq]; refine zm rfl rfl <| zx rfl rfl rfl <| zx rfl rfl rfl <| ze rfl (runs_alloc ti40 hst) ?_; clear hst; rintro _ w ⟨b1, rfl, hst⟩; refine z0 (runs_storeW ti40 rfl rfl hst (k := 0) rfl rfl rfl (NoFz.zero _) (it_one it hvh)) ?_; clear hst; rintro w hst; (try simp only [sZ, sS] at hst); refine zS rfl rfl <| zN <| zm rfl rfl <| z1 rfl (runs_nilCheck rfl) <| zp rfl rfl U101 rfl ti47 rfl <| zl 1 rfl sc47 rfl hst rfl rfl <| zm rfl rfl <| RW.opE0v (runs_delete (i := 2) (keyI Tryz.underlying3) Tryz.underlying47 rfl rfl hst rfl hm) ?_; clear hst; rintro u w ⟨o8, hst, hm8⟩; (try simp only [sZ, sS] at hst); refine zN <| zm rfl rfl <| zS rfl rfl <| zM <| CW.ret <| z9 rfl rfl ?_; rw [mdel_t] at hm8; refine ⟨[_, _], ?_, hst.drop1, bM, o8, rfl, hm8, pdel_nodup hnd _, fun r hr => hrows r (pdel_mem hr), hnx⟩; rw [mget_t, Option.isSome_map]
set_option maxRecDepth 100000 in
set_option maxHeartbeats 1000000 in
theorem get_spec {w0 w : World} {I : Imm} {L : Own} {rows : List TRow} {next : Int} {bT : Nat} {Lt : Own} (hd : TbO I rows next bT Lt) (hst : St w0 w I (Lt ++ L)) (id : Int) :
    Calls Tryz.prog 33 #[.pointer (some ⟨bT, 0, none⟩), .int .i64 id] w fun e w' => ∃ (it : It) (v' : Value) (Lv' : Own), e = .returned (.tuple #[itv it v', .bool (pget rows id).isSome]) ∧ St w0 w' I (Lv' ++ (Lt ++ L)) ∧ v'.oneCell' = true ∧ Grow 54 2 v' (it.heads).length ((it.heads).flatMap hrow) Lv' ∧ it.heads.length ≤ 100000000 ∧ ((pget rows id).map Prod.fst).getD zeroIt = it := by
  obtain ⟨bM, oM, rfl, hm, hnd, hrows, hnx⟩ := hd
  obtain ⟨it, vh, hq, hvs, hvl, hit⟩ : ∃ it vh, ((mget (trend rows) id).getD (itv zeroIt (.slice none 0 0))) = itv it vh ∧ RdH I vh it.heads ∧ it.heads.length ≤ 100000000 ∧ ((pget rows id).map Prod.fst).getD zeroIt = it := by
    rw [mget_t]
    cases hp : pget rows id with
    | none => exact ⟨zeroIt, _, rfl, RdL.nil 2, by decide, rfl⟩
    | some p =>
      obtain ⟨it, vh⟩ := p; have h2 := hrows _ (pget_mem hp); exact ⟨it, vh, rfl, h2.2.1, h2.2.2, rfl⟩
  refine enter Tryz.func33 rfl (N := 20) rfl rfl ?_
  simp only [zA, zB, zC, zD, zE, Nat.reduceAdd]
  have hle := Imm.le.refl I; refine zR <| ze rfl (runs_alloc ti40 hst) ?_; clear hst; rintro _ w ⟨b1, rfl, hst⟩; refine zS rfl rfl <| zN <| zm rfl rfl <| z1 rfl (runs_nilCheck rfl) <| zp rfl rfl U101 rfl ti47 rfl <| zl 1 rfl sc47 rfl hst rfl rfl <| zm rfl rfl <| z1 rfl (runs_lookupOk (i := 2) (keyI Tryz.underlying3) Tryz.underlying47 ti40 rfl rfl hst rfl hm) ?_; rw [show (Value.agg #[.int .i64 0, .int .i64 0, .int .i64 0, .string .empty, .string .empty, .string .empty, .slice none 0 0, .string .empty, .int .i64 0, .int .i64 0, .string .empty, .string .empty, .int .i64 0, .string .empty, .string .empty, .string .empty, .int .i64 0, .int .i64 0, .int .i64 0, .bool false, .string .empty, .string .empty, .int .i64 0, .int .i64 0, .bool false]) = itv zeroIt (.slice none 0 0) from rfl, hq]; refine zm rfl rfl <| zx rfl rfl rfl <| zx rfl rfl rfl <| ze rfl (runs_alloc ti40 hst) ?_; clear hst; rintro _ w ⟨b2, rfl, hst⟩; refine z0 (runs_storeW ti40 rfl rfl hst (k := 0) rfl rfl rfl (NoFz.zero _) (it_one it (RdL.one hvs))) ?_; clear hst; rintro w hst; (try simp only [sZ, sS] at hst); refine zS rfl rfl <| zN <| z1 rfl (runs_loadN (vs := _) ag40 ti40 rfl hst (k := 0) rfl rfl rfl) ?_; refine zK rfl call56 rfl rfl (own_spec hst (hvs.srcH _) hvl) ?_; clear hst; rintro e w ⟨v18, Lv18, rfl, hst, hv18, hg18⟩; replace hst := hst.perm (List.perm_middle.trans (List.Perm.cons _ List.perm_middle)); refine ⟨_, rfl, ?_⟩; refine zm rfl rfl <| z0 (runs_storeW ti40 rfl rfl hst (k := 1) rfl rfl rfl (NoFz.zero _) (it_one it hv18)) ?_; clear hst; rintro w hst; (try simp only [sZ, sS] at hst); refine zS rfl rfl <| zM <| CW.ret <| AQ.retL (rs := [.cell 4 40, .tmp 5]) (vs := [_, _]) rfl ⟨⟨_, rfl, hst.loadN (vs := [_, _, _, _, _, _, _, _, _, _, _, _, _, _, _, _, _, _, _, _, _, _, _, _, _]) (k := 1) ag40 ti40 rfl rfl rfl⟩, rfl, trivial⟩ (by simp) ?_; exact ⟨it, v18, Lv18, by rw [mget_t, Option.isSome_map], hst.drop1.drop1, hv18, hg18, hvl, hit⟩
theorem sorts_spec (m : Nat) : AnyZI.SortsIn Tryz.prog Tryz.sortedA_ren Fence.wide m :=
  ⟨fun blk off cap ss W hH hblk hsz => callsIn_wide.2 (Tryz.slices_Sort_int blk off cap ss W hH hblk hsz), fun p cap W => callsIn_wide.2 (Tryz.slices_Sort_int_none p cap W)⟩
theorem keysA_spec {w0 w : World} {I : Imm} {L : Own} (hst : St w0 w I L) (b : Nat) : Calls Tryz.prog 55 #[.map (some b)] w fun e w' => ∃ b1, e = .returned (.func (.func 85) #[] #[.pointer (some ⟨b1, 0, none⟩)]) ∧ St w0 w' I ((b1, .cells #[.map (some b)] 47) :: L) := by
  have h : CallsIn Fence.wide 5 Tryz.prog 55 #[.map (some b)] w fun e w' => e = .returned (.func (.func 85) #[] #[.pointer (some ⟨w.heap.size, 0, none⟩)]) ∧ w' = w.alloc (.cells #[.map (some b)] 47) := AnyZI.keys_in Tryz.keysA Fence.wide 5 trivial rfl (some b) w
  refine (callsIn_wide.1 h).mono ?_; rintro e w' ⟨rfl, rfl⟩; exact ⟨_, rfl, hst.heap_new _⟩
theorem sortedA_spec {w0 w : World} {I : Imm} {L : Own} {b1 bM : Nat} {oM : Obj} {rows : List (Int × Value)} (hst : St w0 w I ((b1, .cells #[.map (some bM)] 47) :: L)) (hin : (bM, oM) ∈ L) (hm : MapR kI oM rows) (hnd : (rows.map Prod.fst).Nodup) (hw : ∀ r ∈ rows, i64ok r.1) (hz : rows.length ≤ 1000000) :
    Calls Tryz.prog 54 #[.func (.func 85) #[] #[.pointer (some ⟨b1, 0, none⟩)]] w fun e w' => ∃ I' v, I.le I' ∧ e = .returned v ∧ St w0 w' I' L ∧ RdI I' v ((rows.map Prod.fst).mergeSort fun x y => decide (x ≤ y)) := by
  have hb : w.heap[bM]? = some oM := hst.own _ (List.mem_cons_of_mem _ hin); obtain ⟨D, hown, hperm, hsz⟩ := hm.owns (P := Tryz.prog) (kt := 3) Tryz.underlying3 hb hnd (fun r hr => wf_of (hw r hr)) (by unfold maxLen; omega)
  have hseq : SeqGives Fence.wide 2 Tryz.prog 85 #[.pointer (some ⟨b1, 0, none⟩)] encZ (fun ss => ss.Perm (intKeys D)) (Maps.size D) w :=
    AnyZI.keys_gives (ρ := Tryz.keysA_ren) { Tryz.keysA with } Fence.wide _ trivial rfl (by omega) b1 bM _ D w (hst.lt_own (p := (b1, _)) (List.mem_cons_self ..)) (hst.cell_own (k := 0) rfl rfl) hown
  have h := AnyZI.sorted_in Tryz.sortedA Fence.wide 5 trivial trivial trivial trivial rfl (by omega) (sorts_spec _) (enters_of Tryz.func84 (by kernel_rfl) rfl) 85 #[.pointer (some ⟨b1, 0, none⟩)] trivial (enters_of Tryz.func85 (by kernel_rfl) rfl) _ _ (by rw [hsz]; unfold maxLen; omega) (by rw [hsz]; omega) _ hseq
  change CallsIn Fence.wide 5 Tryz.prog 54 _ _ _ at h
  refine (callsIn_wide.1 h).mono ?_; rintro e w' ⟨v, ss, rfl, hS, hrow, _, hbl⟩; have hrow2 : w'.ownsRow w.heap.size 3 1 v ss.length ((ss.mergeSort (fun x y => decide (x ≤ y))).map encZ) := hrow
  obtain ⟨Lv, hst2, hg⟩ := hst.drop1.ownsRow hbl hrow2 (by
    intro u hu; obtain ⟨x, _, rfl⟩ := List.mem_map.1 hu
    rfl)
  obtain ⟨I', h1, h2, h3⟩ := hg.freeze hst2; refine ⟨I', v, h1, rfl, h2, ?_⟩; have e : ss.mergeSort (fun x y => decide (x ≤ y)) = (rows.map Prod.fst).mergeSort (fun x y => decide (x ≤ y)) := mergeSort_of_perm_i (hS.trans hperm)
  have hl : ss.length = ((rows.map Prod.fst).mergeSort fun x y => decide (x ≤ y)).length := by rw [← e, List.length_mergeSort]
  rw [e, hl] at h3; exact h3
set_option maxRecDepth 100000 in
set_option maxHeartbeats 1000000 in
theorem ids_spec {w0 w : World} {I : Imm} {L : Own} {rows : List TRow} {next : Int} {bT : Nat} {Lt : Own} (hd : TbO I rows next bT Lt) (hst : St w0 w I (Lt ++ L)) (hz : rows.length ≤ 1000000) :
    Calls Tryz.prog 32 #[.pointer (some ⟨bT, 0, none⟩)] w fun e w' => ∃ I' v, I.le I' ∧ e = .returned v ∧ St w0 w' I' (Lt ++ L) ∧ RdI I' v (keysUp rows) := by
  obtain ⟨bM, oM, rfl, hm, hnd, hrows, hnx⟩ := hd; refine enter Tryz.func32 rfl (N := 9) rfl rfl ?_
  simp only [zA, zB, zC, zD, zE, Nat.reduceAdd]
  have hle := Imm.le.refl I; refine zR <| zS rfl rfl <| zN <| zm rfl rfl <| z1 rfl (runs_nilCheck rfl) <| zp rfl rfl U101 rfl ti47 rfl <| zl 0 rfl sc47 rfl hst rfl rfl <| zK rfl call55 rfl rfl (keysA_spec hst bM) ?_; clear hst; rintro e w ⟨b7, rfl, hst⟩; refine ⟨_, rfl, ?_⟩
  refine zK rfl call54 rfl rfl (sortedA_spec hst (show (bM, oM) ∈ _ from by simp) hm (by unfold trend; rw [rend_keys]; exact hnd) (fun r hr => by
    unfold trend rend at hr; obtain ⟨q, hq, rfl⟩ := List.mem_map.1 hr
    exact (hrows q hq).1) (by unfold trend; rw [rend_len]; exact hz)) ?_
  clear hst; rintro e w ⟨I8, v8, hI8, rfl, hst, hv8⟩; replace hle := hle.trans hI8; refine ⟨_, rfl, ?_⟩; refine zS rfl rfl <| zM <| CW.ret <| z9 rfl rfl ?_; refine ⟨_, v8, hle, rfl, hst, ?_⟩; unfold trend at hv8; rw [rend_keys] at hv8; exact hv8
theorem RdH.nil (I : Imm) : RdH I (.slice none 0 0) [] := RdL.nil 2
theorem St.dropF {I : Imm} {Lt L : Own} {w0 w : World} (hst : St w0 w I (Lt ++ L)) : St w0 w I L := hst.sub (List.sublist_append_right _ _)
theorem neSelf (a : Int) : decide (a ≠ a) = false := by simp
theorem pput_map {α β : Type} (g : α → β) (rows : List (Int × α)) (k : Int) (v : α) : (pput rows k v).map (fun r => (r.1, g r.2)) = pput (rows.map fun r => (r.1, g r.2)) k (g v) := by
  induction rows with
  | nil => rfl
  | cons p r ih =>
    obtain ⟨a, u⟩ := p; rw [List.map_cons]; unfold pput
    split
    · rfl
    · rw [List.map_cons, ih]
theorem pdel_map {α β : Type} (g : α → β) (rows : List (Int × α)) (k : Int) : (pdel rows k).map (fun r => (r.1, g r.2)) = pdel (rows.map fun r => (r.1, g r.2)) k := by
  induction rows with
  | nil => rfl
  | cons p r ih =>
    obtain ⟨a, u⟩ := p; rw [List.map_cons]; unfold pdel
    split
    · rfl
    · rw [List.map_cons, ih]
theorem pget_map {α β : Type} (g : α → β) (rows : List (Int × α)) (k : Int) : pget (rows.map fun r => (r.1, g r.2)) k = (pget rows k).map g := by
  induction rows with
  | nil => rfl
  | cons p r ih =>
    obtain ⟨a, u⟩ := p; rw [List.map_cons]; unfold pget
    split
    · rfl
    · exact ih
theorem pdel_none {α : Type} {rows : List (Int × α)} {k : Int} (h : pget rows k = none) : pdel rows k = rows := by
  induction rows with
  | nil => rfl
  | cons p r ih =>
    obtain ⟨a, u⟩ := p; unfold pget at h; unfold pdel
    by_cases e : k = a
    · rw [if_pos e] at h; cases h
    · rw [if_neg e] at h ⊢; rw [ih h]
theorem keysUp_len {α : Type} (rows : List (Int × α)) : (keysUp rows).length = rows.length := by unfold keysUp; rw [List.length_mergeSort, List.length_map]
theorem keysUp_mem {α : Type} (rows : List (Int × α)) (k : Int) : k ∈ keysUp rows ↔ k ∈ rows.map Prod.fst := by unfold keysUp; exact List.mem_mergeSort
theorem keysUp_lt {α : Type} {rows : List (Int × α)} (hn : (rows.map Prod.fst).Nodup) : (keysUp rows).Pairwise (· < ·) := by
  have h1 : (keysUp rows).Pairwise fun a b => decide (a ≤ b) = true := List.pairwise_mergeSort (fun a b c h1 h2 => by simp only [decide_eq_true_eq] at *; omega) (fun a b => by simp only [Bool.or_eq_true, decide_eq_true_eq]; omega) _
  have h2 : (keysUp rows).Nodup := (List.mergeSort_perm _ _).nodup_iff.2 hn; refine (List.Pairwise.and h1 h2).imp ?_; rintro a b ⟨h, hne⟩
  simp only [decide_eq_true_eq] at h
  omega
theorem iat_mem {l : List Int} {k : Nat} (hk : k < l.length) : iat l (k : Int) ∈ l := by
  unfold iat; rw [Int.toNat_natCast, List.getD_eq_getElem?_getD, List.getElem?_eq_getElem hk]; exact List.getElem_mem hk
theorem up_len : ∀ (l : List Int) (a b : Int), l.Pairwise (· < ·) → (∀ x ∈ l, a ≤ x ∧ x ≤ b) → (l.length : Int) ≤ 0 ∨ (l.length : Int) ≤ b - a + 1
  | [], _, _, _, _ => .inl (by simp)
  | x :: r, a, b, hp, h => by
    have hx := h x (List.mem_cons_self ..); rw [List.pairwise_cons] at hp; have ih := up_len r (x + 1) b hp.2 (fun y hy => ⟨by have := hp.1 y hy; omega, (h y (List.mem_cons_of_mem _ hy)).2⟩); rw [List.length_cons]; omega
end Go.Proofs.YtadgbifmiooikaaGreatX
namespace Go.Proofs.YtadgbifmiooikaaGreatX
set_option linter.unusedVariables false
open Go
inductive AV where
  | num (n : Int)
  | txt (b : ByteArray)
  | flg (t : Bool)
  | oth (v : Value)
def AV.v : AV → Value
  | .num n => .iface 3 (.int .i64 n)
  | .txt b => .iface 9 (.string b)
  | .flg t => .iface 4 (.bool t)
  | .oth v => v
def otherV : Value → Bool
  | .nilIface => true
  | .iface t _ => t != 3 && t != 9 && t != 4
  | _ => false
def AV.good (m : Nat) (o : Bool) : AV → Prop
  | .num n => i64ok n
  | .txt b => b.size ≤ m
  | .flg _ => True
  | .oth v => o = true ∧ otherV v = true
theorem AV.isI {m : Nat} {o : Bool} {a : AV} (h : a.good m o) : isIface a.v = true := by
  cases a with
  | oth v =>
    have := h.2
    cases v <;> simp [otherV] at this <;> rfl
  | _ => rfl
theorem AV.one {m : Nat} {o : Bool} {a : AV} (h : a.good m o) : a.v.oneCell' = true := by
  cases a with
  | oth v =>
    have := h.2
    cases v <;> simp [otherV] at this <;> rfl
  | _ => rfl
theorem AV.asB_num {m : Nat} {o : Bool} {a : AV} (h : a.good m o) (hb : asB 3 a.v = true) : ∃ n, a = .num n := by
  cases a with
  | num n => exact ⟨n, rfl⟩
  | txt b => exact absurd hb (by simp [AV.v, asB])
  | flg t => exact absurd hb (by simp [AV.v, asB])
  | oth v =>
    have h2 := h.2
    cases v <;> simp [otherV, asB, AV.v] at h2 hb
    exact absurd hb h2.1.1
theorem AV.asB_txt {m : Nat} {o : Bool} {a : AV} (h : a.good m o) (hb : asB 9 a.v = true) : ∃ b, a = .txt b := by
  cases a with
  | num n => exact absurd hb (by simp [AV.v, asB])
  | txt b => exact ⟨b, rfl⟩
  | flg t => exact absurd hb (by simp [AV.v, asB])
  | oth v =>
    have h2 := h.2
    cases v <;> simp [otherV, asB, AV.v] at h2 hb
    exact absurd hb h2.1.2
theorem AV.asB_flg {m : Nat} {o : Bool} {a : AV} (h : a.good m o) (hb : asB 4 a.v = true) : ∃ b, a = .flg b := by
  cases a with
  | num n => exact absurd hb (by simp [AV.v, asB])
  | txt b => exact absurd hb (by simp [AV.v, asB])
  | flg t => exact ⟨t, rfl⟩
  | oth v =>
    have h2 := h.2
    cases v <;> simp [otherV, asB, AV.v] at h2 hb
    exact absurd hb h2.2
theorem AV.asB_oth {a : AV} (h1 : asB 3 a.v = false) (h2 : asB 9 a.v = false) (h3 : asB 4 a.v = false) : ∃ v, a = .oth v := by
  cases a with
  | num n => exact absurd h1 (by simp [AV.v, asB])
  | txt b => exact absurd h2 (by simp [AV.v, asB])
  | flg t => exact absurd h3 (by simp [AV.v, asB])
  | oth v => exact ⟨v, rfl⟩
def be8 (n : Int) : List UInt8 := (List.range 8).map fun j => u8 ((IntKind.u64.wrap n).fdiv (2 ^ (8 * (7 - j))))
theorem be8_take (n : Int) {j : Nat} (h : j < 8) : (be8 n).take (j + 1) = (be8 n).take j ++ [u8 ((IntKind.u64.wrap n).fdiv (2 ^ (8 * (7 - j))))] := take_map_range _ 8 j h
theorem be8_length (n : Int) : (be8 n).length = 8 := by simp [be8]
def enc1 : AV → List UInt8
  | .num n => 105 :: be8 n
  | .txt b => 115 :: u8 b.size :: b.toList
  | .flg t => [if t then 116 else 102]
  | .oth _ => []
def enc1Ok : AV → Bool
  | .txt b => decide (b.size ≤ 255)
  | .oth _ => false
  | _ => true
def encA (av : List AV) : List UInt8 := av.flatMap enc1
def encOk (av : List AV) : Bool := av.all enc1Ok
abbrev RdA (I : Imm) (v : Value) (av : List AV) : Prop := RdL I 1 v av.length (av.map AV.v)
abbrev GrowA (v : Value) (av : List AV) (Lv : Own) : Prop := Grow 20 1 v av.length (av.map AV.v) Lv
theorem RdA.at {I : Imm} {v : Value} {av : List AV} {i : Int} (h : RdA I v av) (h0 : 0 ≤ i) (h1 : i < av.length) : I.cell? (slPtr v (i.toNat * 1)) = some (av[i.toNat]'(by omega)).v := by
  refine RdL.cell h ?_
  have : i.toNat < av.length := by omega
  simp [this]
theorem encOk_take {av : List AV} {k : Nat} (hk : k < av.length) (h : encOk (av.take k) = true) (h1 : enc1Ok av[k] = true) : encOk (av.take (k + 1)) = true := by
  unfold encOk at *; rw [List.take_add_one, List.all_append, h, List.getElem?_eq_getElem hk]
  simp [h1]
theorem encOk_no {av : List AV} {k : Nat} (hk : k < av.length) (h1 : enc1Ok av[k] = false) : encOk av = false := by
  unfold encOk; rw [List.all_eq_false]; exact ⟨av[k], List.getElem_mem _, by simp [h1]⟩
theorem encA_take {av : List AV} {k : Nat} (hk : k < av.length) : encA (av.take (k + 1)) = encA (av.take k) ++ enc1 av[k] := by
  unfold encA; rw [List.take_add_one, List.flatMap_append, List.getElem?_eq_getElem hk]
  simp
theorem enc1_le {a : AV} (h : enc1Ok a = true) : (enc1 a).length ≤ 257 := by
  cases a with
  | num n => simp [enc1, be8_length]
  | txt b =>
    have hb : b.toList.length = b.size := by rw [ByteArray.toList_eq]; rfl
    simp only [enc1Ok, decide_eq_true_eq] at h
    simp [enc1, hb]; omega
  | flg t => simp [enc1]
  | oth v => simp [enc1]
theorem encA_le : ∀ {av : List AV}, encOk av = true → (encA av).length ≤ av.length * 257
  | [], _ => by simp [encA]
  | a :: r, h => by
    have h1 : enc1Ok a = true ∧ encOk r = true := by simpa [encOk] using h
    have := enc1_le h1.1; have := encA_le h1.2
    simp only [encA, List.flatMap_cons, List.length_append, List.length_cons, Nat.add_mul, Nat.one_mul] at *
    omega
theorem GrowA.push {v : Value} {av : List AV} {a : AV} {Lv : Own} (h : Grow 20 1 v (av.length + 1) (av.map AV.v ++ [a.v]) Lv) : GrowA v (av ++ [a]) Lv := by
  unfold GrowA; rw [List.length_append, List.map_append]; exact h
theorem strOf_size (bs : List UInt8) : (strOf bs).size = bs.length := by
  have := size_toList (strOf bs); rw [strOf_toList] at this; exact this.symm
theorem toList_inj {a b : ByteArray} (h : a.toList = b.toList) : a = b := by
  rw [ByteArray.toList_eq, ByteArray.toList_eq] at h
  cases a; cases b
  congr 1
  exact Array.toList_inj.1 h
theorem good_encOk {m : Nat} {av : List AV} (h : ∀ a ∈ av, a.good m false) (hm : m ≤ 255) : encOk av = true := by
  unfold encOk; rw [List.all_eq_true]; intro a ha; have := h a ha
  cases a <;> simp [enc1Ok, AV.good] at *
  omega
theorem enc1_ne {m : Nat} {a : AV} (ha : a.good m false) : enc1 a ≠ [] := by
  cases a with
  | oth v => exact absurd ha.1 (by decide)
  | _ => simp [enc1]
def nstep (x : Int) (c : UInt8) : Int := bitop .or .u64 (IntKind.u64.wrap (x * 2 ^ 8)) (IntKind.u64.wrap (c.toNat : Int))
def num64 (bs : List UInt8) : Int := IntKind.i64.wrap (bs.foldl nstep 0)
def dec1 (b : List UInt8) : Option (AV × Nat) :=
  if bat b 0 = 116 ∨ bat b 0 = 102 then some (.flg (decide (bat b 0 = 116)), 1)
  else if bat b 0 = 105 ∧ 8 < b.length then some (.num (num64 ((b.drop 1).take 8)), 9)
  else if bat b 0 = 115 ∧ 1 < b.length ∧ 2 + bat b 1 ≤ b.length then some (.txt (strOf ((b.drop 2).take (bat b 1).toNat)), 2 + (bat b 1).toNat)
  else none
theorem dec1_flg {b : List UInt8} (h : bat b 0 = 116 ∨ bat b 0 = 102) : dec1 b = some (.flg (decide (bat b 0 = 116)), 1) := by unfold dec1; rw [if_pos h]
theorem dec1_num {b : List UInt8} (h0 : ¬ (bat b 0 = 116 ∨ bat b 0 = 102)) (h : bat b 0 = 105 ∧ 8 < b.length) : dec1 b = some (.num (num64 ((b.drop 1).take 8)), 9) := by unfold dec1; rw [if_neg h0, if_pos h]
theorem dec1_txt {b : List UInt8} (h0 : ¬ (bat b 0 = 116 ∨ bat b 0 = 102)) (h1 : ¬ (bat b 0 = 105 ∧ 8 < b.length)) (h : bat b 0 = 115 ∧ 1 < b.length ∧ 2 + bat b 1 ≤ b.length) :
    dec1 b = some (.txt (strOf ((b.drop 2).take (bat b 1).toNat)), 2 + (bat b 1).toNat) := by unfold dec1; rw [if_neg h0, if_neg h1, if_pos h]
theorem dec1_no {b : List UInt8} (h0 : ¬ (bat b 0 = 116 ∨ bat b 0 = 102)) (h1 : ¬ (bat b 0 = 105 ∧ 8 < b.length)) (h : ¬ (bat b 0 = 115 ∧ 1 < b.length ∧ 2 + bat b 1 ≤ b.length)) : dec1 b = none := by unfold dec1; rw [if_neg h0, if_neg h1, if_neg h]
theorem dec1_pos {b : List UInt8} {a : AV} {k : Nat} (h : dec1 b = some (a, k)) : 1 ≤ k := by
  unfold dec1 at h
  split at h
  · cases h; exact Nat.le_refl _
  · split at h
    · cases h; decide
    · split at h
      · cases h; omega
      · cases h
theorem dec1_le {b : List UInt8} (hb : 0 < b.length) {a : AV} {k : Nat} (h : dec1 b = some (a, k)) : k ≤ b.length := by
  unfold dec1 at h; have := bat_lt b 1
  split at h
  · cases h; exact hb
  · split at h
    · cases h; omega
    · split at h
      · cases h; omega
      · cases h
theorem fold_take {xs : List UInt8} {k : Nat} (hk : k < xs.length) : (xs.take (k + 1)).foldl nstep 0 = bitop .or .u64 (IntKind.u64.wrap ((xs.take k).foldl nstep 0 * 2 ^ 8)) (IntKind.u64.wrap (bat xs (k : Int))) := by
  rw [List.take_add_one, List.getElem?_eq_getElem hk, Option.toList_some, List.foldl_append]
  simp only [List.foldl_cons, List.foldl_nil, nstep]
  congr 2
  unfold bat
  simp [hk]
def decF : Nat → List UInt8 → Option (List AV)
  | 0, b => if b = [] then some [] else none
  | n + 1, b => if b = [] then some [] else match dec1 b with
    | none => none
    | some (a, k) => (decF n (b.drop k)).map (a :: ·)
theorem decF_enough : ∀ (n m : Nat) (b : List UInt8), b.length ≤ n → b.length ≤ m → decF n b = decF m b
  | 0, 0, b, h, h' => rfl
  | 0, m + 1, b, h, h' => by
    have : b = [] := List.eq_nil_of_length_eq_zero (by omega); subst this
    rfl
  | n + 1, 0, b, h, h' => by
    have : b = [] := List.eq_nil_of_length_eq_zero (by omega); subst this
    rfl
  | n + 1, m + 1, b, h, h' => by
    unfold decF
    by_cases hb : b = []
    · rw [if_pos hb, if_pos hb]
    · rw [if_neg hb, if_neg hb]
      cases hd : dec1 b with
      | none => rfl
      | some x =>
        obtain ⟨a, k⟩ := x; have hk := dec1_pos hd; have hpos : 0 < b.length := List.length_pos_iff.2 hb
        simp only []
        rw [decF_enough n m (b.drop k) (by rw [List.length_drop]; omega) (by rw [List.length_drop]; omega)]
def decA (b : List UInt8) : Option (List AV) := decF b.length b
theorem decA_nil : decA [] = some [] := rfl
theorem decA_step {b : List UInt8} (hb : 0 < b.length) : decA b = match dec1 b with
    | none => none
    | some (a, k) => (decA (b.drop k)).map (a :: ·) := by
  unfold decA; obtain ⟨n, hn⟩ : ∃ n, b.length = n + 1 := ⟨b.length - 1, by omega⟩; rw [hn]; rw [decF]; rw [if_neg (fun e => by rw [e] at hb; exact absurd hb (by decide))]
  cases hd : dec1 b with
  | none => rfl
  | some x =>
    obtain ⟨a, k⟩ := x; have hk := dec1_pos hd
    simp only []
    rw [decF_enough n (b.drop k).length (b.drop k) (by rw [List.length_drop]; omega) (Nat.le_refl _)]
theorem decA_some {b : List UInt8} (hb : 0 < b.length) {a : AV} {k : Nat} (hd : dec1 b = some (a, k)) : decA b = (decA (b.drop k)).map (a :: ·) := by rw [decA_step hb, hd]
theorem decA_none {b : List UInt8} (hb : 0 < b.length) (hd : dec1 b = none) : decA b = none := by rw [decA_step hb, hd]
theorem wrap64_ok (n : Int) : i64ok (IntKind.i64.wrap n) := by
  rw [IntKind.wrap_i64]; unfold i64ok; omega
theorem dec1_good {b : List UInt8} {a : AV} {k : Nat} (h : dec1 b = some (a, k)) : a.good 255 false := by
  unfold dec1 at h
  split at h
  · cases h; trivial
  · split at h
    · cases h; exact wrap64_ok _
    · split at h
      · cases h
        show (strOf _).size ≤ 255
        rw [strOf_size, List.length_take]; have := bat_lt b 1; omega
      · cases h
theorem nstep_eq {x : Int} (c : UInt8) (hx : 0 ≤ x) : nstep x c = (x * 256) % 18446744073709551616 + c.toNat := by
  unfold nstep; have hc := c.toNat_lt; rw [IntKind.wrap_u64, IntKind.wrap_u64]
  obtain ⟨A, hA⟩ : ∃ A : Nat, (x * 2 ^ 8) % 18446744073709551616 = ((2 ^ 8 * A : Nat) : Int) := by
    refine ⟨((x * 2 ^ 8) % 18446744073709551616 / 256).toNat, ?_⟩; rw [Int.natCast_mul, show (((2 ^ 8 : Nat)) : Int) = 256 from rfl]; omega
  have hA2 : 2 ^ 8 * A < 18446744073709551616 := by omega
  have hB : ((c.toNat : Int) % 18446744073709551616) = ((c.toNat : Nat) : Int) := by omega
  have e8 : x * 2 ^ 8 = x * 256 := by omega
  rw [hA, hB, ← e8, hA]
  show IntKind.u64.wrap (((BitVec.ofInt 64 ((2 ^ 8 * A : Nat) : Int)) ||| (BitVec.ofInt 64 ((c.toNat : Nat) : Int))).toNat : Int) = _
  rw [BitVec.ofInt_natCast, BitVec.ofInt_natCast, BitVec.toNat_or, BitVec.toNat_ofNat, BitVec.toNat_ofNat, Nat.mod_eq_of_lt (by omega), Nat.mod_eq_of_lt (by omega), ← Nat.two_pow_add_eq_or_of_lt (by omega) A, IntKind.wrap_u64]; omega
theorem num64_be8 {n : Int} (h : i64ok n) : num64 (be8 n) = n := by
  unfold num64 be8; unfold i64ok at h
  have fd : ∀ (x : Int) (n : Nat), x.fdiv (2 ^ n) = x / 2 ^ n := fun x n => Int.fdiv_eq_ediv_of_nonneg _ (Int.pow_nonneg (by decide))
  simp only [List.range_succ, List.range_zero, List.nil_append, List.map_cons, List.map_nil, List.cons_append, List.foldl_cons, List.foldl_nil, fd, IntKind.wrap_u64]
  simp only [Nat.reduceSub, Nat.reduceMul, Int.reducePow]
  obtain ⟨U, hU⟩ : ∃ U, n % 18446744073709551616 = U := ⟨_, rfl⟩; rw [hU]
  have st : ∀ (x D : Int), 0 ≤ x → nstep x (u8 D) = (x * 256) % 18446744073709551616 + D % 256 := fun x D hx => by rw [nstep_eq _ hx, u8_toNat]
  have k1 : nstep 0 (u8 (U / 72057594037927936)) = U / 72057594037927936 := by rw [st _ _ (by omega)]; omega
  rw [k1]
  have k2 : nstep (U / 72057594037927936) (u8 (U / 281474976710656)) = U / 281474976710656 := by rw [st _ _ (by omega)]; omega
  rw [k2]
  have k3 : nstep (U / 281474976710656) (u8 (U / 1099511627776)) = U / 1099511627776 := by rw [st _ _ (by omega)]; omega
  rw [k3]
  have k4 : nstep (U / 1099511627776) (u8 (U / 4294967296)) = U / 4294967296 := by rw [st _ _ (by omega)]; omega
  rw [k4]
  have k5 : nstep (U / 4294967296) (u8 (U / 16777216)) = U / 16777216 := by rw [st _ _ (by omega)]; omega
  rw [k5]
  have k6 : nstep (U / 16777216) (u8 (U / 65536)) = U / 65536 := by rw [st _ _ (by omega)]; omega
  rw [k6]
  have k7 : nstep (U / 65536) (u8 (U / 256)) = U / 256 := by rw [st _ _ (by omega)]; omega
  rw [k7]
  have k8 : nstep (U / 256) (u8 (U / 1)) = U := by rw [st _ _ (by omega)]; omega
  rw [k8, IntKind.wrap_i64]; omega
theorem strOf_toList' (b : ByteArray) : strOf b.toList = b := toList_inj (strOf_toList _)
theorem dec1_enc1 {m : Nat} (hm : m ≤ 255) {a : AV} (ha : a.good m false) (r : List UInt8) : dec1 (enc1 a ++ r) = some (a, (enc1 a).length) := by
  cases a with
  | num n =>
    have h0 : bat (enc1 (.num n) ++ r) 0 = 105 := rfl
    have hl : (enc1 (.num n) ++ r).length = 9 + r.length := by simp [enc1, be8_length]; omega
    rw [dec1_num (by rw [h0]; omega) ⟨h0, by omega⟩]
    have e : ((enc1 (.num n) ++ r).drop 1).take 8 = be8 n := by
      show (be8 n ++ r).take 8 = be8 n
      rw [List.take_append_of_le_length (by rw [be8_length]; omega), List.take_of_length_le (by rw [be8_length]; omega)]
    rw [e, num64_be8 ha]
    simp [enc1, be8_length]
  | txt s =>
    have hs : s.size ≤ m := ha; have h0 : bat (enc1 (.txt s) ++ r) 0 = 115 := rfl
    have h1 : bat (enc1 (.txt s) ++ r) 1 = s.size := by
      show ((u8 (s.size : Int)).toNat : Int) = _
      rw [u8_toNat]; omega
    have hl : (enc1 (.txt s) ++ r).length = 2 + s.size + r.length := by simp [enc1, size_toList]; omega
    rw [dec1_txt (by rw [h0]; omega) (by rw [h0]; omega) ⟨h0, by omega, by omega⟩, h1]
    have e : ((enc1 (.txt s) ++ r).drop 2).take ((s.size : Int)).toNat = s.toList := by
      show (s.toList ++ r).take s.size = s.toList
      rw [← size_toList, List.take_left]
    rw [e, strOf_toList']
    simp [enc1, size_toList]; omega
  | flg t =>
    cases t
    · have h0 : bat (enc1 (.flg false) ++ r) 0 = 102 := rfl; rw [dec1_flg (.inr h0), h0]
      rfl
    · have h0 : bat (enc1 (.flg true) ++ r) 0 = 116 := rfl; rw [dec1_flg (.inl h0), h0]
      rfl
  | oth v => exact absurd ha.1 (by decide)
theorem decA_encA {m : Nat} (hm : m ≤ 255) : ∀ {av : List AV}, (∀ x ∈ av, x.good m false) → decA (encA av) = some av
  | [], _ => rfl
  | a :: r, h => by
    have ha := h a (List.mem_cons_self ..); have hne := enc1_ne ha; have e : encA (a :: r) = enc1 a ++ encA r := rfl
    have hpos : 0 < (encA (a :: r)).length := by
      rw [e, List.length_append]; have := List.length_pos_iff.2 hne; omega
    rw [decA_some hpos (by rw [e]; exact dec1_enc1 hm ha _), e, List.drop_left, decA_encA hm (fun x hx => h x (List.mem_cons_of_mem _ hx))]
    rfl
end Go.Proofs.YtadgbifmiooikaaGreatX
