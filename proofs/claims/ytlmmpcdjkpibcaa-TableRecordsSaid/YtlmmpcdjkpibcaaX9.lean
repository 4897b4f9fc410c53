/- Structs of numbers compared; rows of rows. Own lemmas, no program in sight. -/
import Derived.Test.YtlmmpcdjkpibcaaX8
import Derived.Laws.StructEq
import Derived.Below
namespace Go.Proofs.YtlmmpcdjkpibcaaX
set_option linter.unusedVariables false
set_option linter.unusedSimpArgs false
open Go Go.RowKit
variable {w0 w : World} {I : Imm} {L : Own} {P : Program} {l : Env} {ty : TypeId} {N : Nat}

def isI64 (P : Program) (t : TypeId) : Bool := match P.underlying t with
  | some (.int .i64) => true
  | _ => false
theorem isI64_of {t : TypeId} (h : isI64 P t = true) : P.underlying t = some (.int .i64) := by
  unfold isI64 at h
  split at h
  · assumption
  · cases h
/-- A struct of n numbers, field behind field. -/
def EZ (P : Program) (t : TypeId) (n : Nat) : Bool := match P.underlying t with
  | some (.struct fs) => !(P.stoodInHeld t) && !(P.eqGuardType P.depth t) && fs.toList.length == n && fs.toList.zipIdx.all fun (f, i) => f.name != "_" && f.offset == i && isI64 P f.type
  | _ => false
theorem run_partZ {t : TypeId} {cs : Array Value} {off : Nat} {v : Value} (ht : P.underlying t = some (.int .i64)) (h : cs[off]? = some v) : (part t cs off).run P w = .ok v w := by
  unfold part
  simp only [Sem.run_bind]
  have h1 : (isAgg t).run P w = .ok false w := by unfold isAgg; simp [Sem.run_bind, run_underlying ht, Result.andThen]
  rw [h1]
  simp only [Result.andThen, Bool.false_eq_true, if_false, h]
  rfl
theorem run_eqFieldsZ {d : Nat} : ∀ (fs : List Field) (k : Nat) (xs ys : List Int), (∀ p ∈ fs.zipIdx k, (p.1.name != "_" && p.1.offset == p.2 && isI64 P p.1.type) = true) → xs.length = k + fs.length → ys.length = k + fs.length →
    (Op.eqFields (d + 1) (xs.map fun n => Value.int .i64 n).toArray (ys.map fun n => Value.int .i64 n).toArray fs).run P w = .ok (decide (xs.drop k = ys.drop k)) w
  | [], k, xs, ys, _, h1, h2 => by
    have e1 : xs.drop k = [] := List.drop_eq_nil_of_le (by simp at h1; omega)
    have e2 : ys.drop k = [] := List.drop_eq_nil_of_le (by simp at h2; omega)
    rw [e1, e2]
    simp [Op.eqFields]
  | f :: fs, k, xs, ys, h, h1, h2 => by
    have h0 := h (f, k) (by simp [List.zipIdx_cons])
    simp only [Bool.and_eq_true, bne_iff_ne, ne_eq, beq_iff_eq] at h0
    obtain ⟨⟨hn, ho⟩, ht'⟩ := h0
    have ht := isI64_of ht'
    simp only [List.length_cons] at h1 h2
    have hx : k < xs.length := by omega
    have hy : k < ys.length := by omega
    have ih := run_eqFieldsZ (d := d) fs (k + 1) xs ys (fun p hp => h p (by rw [List.zipIdx_cons]; exact List.mem_cons_of_mem _ hp)) (by omega) (by omega)
    have ha : (part f.type (xs.map fun n => Value.int .i64 n).toArray f.offset).run P w = .ok (.int .i64 xs[k]) w := run_partZ ht (by rw [ho]; simp [hx])
    have hb : (part f.type (ys.map fun n => Value.int .i64 n).toArray f.offset).run P w = .ok (.int .i64 ys[k]) w := run_partZ ht (by rw [ho]; simp [hy])
    rw [Op.eqFields]
    simp only [if_pos hn, Sem.run_bind, ha, hb, run_equalIn_int w d f.type .i64 .i64 _ _ ht, Result.andThen_ok]
    have e0 : (xs.drop k = ys.drop k) ↔ (xs[k] = ys[k] ∧ xs.drop (k + 1) = ys.drop (k + 1)) := by
      rw [List.drop_eq_getElem_cons hx, List.drop_eq_getElem_cons hy, List.cons.injEq]
    simp only [e0]
    by_cases he : xs[k] = ys[k]
    · simp only [he, beq_self_eq_true, if_true, true_and]
      exact ih
    · simp [he]
theorem run_eqZ {op : BinOp} {t t' : TypeId} {x y : Operand} {xs ys : List Int} {n : Nat} (ht : EZ P t n = true) (h1 : xs.length = n) (h2 : ys.length = n) :
    (Op.equalIn 10000 t (.agg (xs.map fun n => Value.int .i64 n).toArray) (.agg (ys.map fun n => Value.int .i64 n).toArray)).run P w = .ok (decide (xs = ys)) w ∧ P.eqGuardType P.depth t = false := by
  unfold EZ at ht
  cases hu : P.underlying t with
  | none => simp [hu] at ht
  | some d => cases d <;> simp only [hu] at ht <;> try (exact absurd ht (by decide))
              rename_i fs
              simp only [Bool.and_eq_true, Bool.not_eq_true', beq_iff_eq, List.all_eq_true] at ht
              obtain ⟨⟨⟨hp, hg⟩, hl⟩, hall⟩ := ht
              have hf : P.fieldsOf t = fs := by simp [Program.fieldsOf, hu]
              refine ⟨?_, hg⟩
              rw [show (10000 : Nat) = 9999 + 1 from rfl, run_equalIn_struct (P := P) w 9999 t _ _ (by rw [hf]; exact hu) hp, hf]
              have := run_eqFieldsZ (P := P) (w := w) (d := 9998) fs.toList 0 xs ys (fun p hp => by have := hall p hp; simpa using this) (by omega) (by omega)
              simpa using this
theorem runs_eqZ {t t' : TypeId} {x y : Operand} {xs ys : List Int} {n : Nat} {us vs : Array Value} (ht : EZ P t n = true) (hx : ev l x = some (.agg us)) (hy : ev l y = some (.agg vs)) (hu : us = (xs.map fun n => Value.int .i64 n).toArray) (hv : vs = (ys.map fun n => Value.int .i64 n).toArray) (h1 : xs.length = n := by rfl) (h2 : ys.length = n := by rfl) :
    Runs P (.binOp .eql t x y t') ty l w (.value (.bool (decide (xs = ys)))) w :=
  .of (fun ρ => do eqGuard .eql t x y (ρ x) (ρ y); binOp .eql t (ρ x) (ρ y)) (fun _ _ _ _ _ => rfl) fun ρ hρ => by
    subst hu hv
    obtain ⟨h3, h4⟩ := run_eqZ (P := P) (w := w) (op := .eql) (t' := t') (x := x) (y := y) ht h1 h2
    simp only [hρ x _ hx, hρ y _ hy, Sem.run_bind, run_eqGuard_agg w .eql t x y _ _ h4, Result.andThen_ok, run_eql_struct, h3]
theorem runs_neZ {t t' : TypeId} {x y : Operand} {xs ys : List Int} {n : Nat} {us vs : Array Value} (ht : EZ P t n = true) (hx : ev l x = some (.agg us)) (hy : ev l y = some (.agg vs)) (hu : us = (xs.map fun n => Value.int .i64 n).toArray) (hv : vs = (ys.map fun n => Value.int .i64 n).toArray) (h1 : xs.length = n := by rfl) (h2 : ys.length = n := by rfl) :
    Runs P (.binOp .neq t x y t') ty l w (.value (.bool (!decide (xs = ys)))) w :=
  .of (fun ρ => do eqGuard .neq t x y (ρ x) (ρ y); binOp .neq t (ρ x) (ρ y)) (fun _ _ _ _ _ => rfl) fun ρ hρ => by
    subst hu hv
    obtain ⟨h3, h4⟩ := run_eqZ (P := P) (w := w) (op := .neq) (t' := t') (x := x) (y := y) ht h1 h2
    simp only [hρ x _ hx, hρ y _ hy, Sem.run_bind, run_eqGuard_agg w .neq t x y _ _ h4, Result.andThen_ok, run_neq_struct, h3]
/-- A slice whose cells are rows of bytes. -/
def RdR (I : Imm) (v : Value) (vs : List Value) (bss : List (List UInt8)) : Prop := RdL I 1 v vs.length vs ∧ vs.length = bss.length ∧ ∀ (i : Nat) (u : Value) (b : List UInt8), vs[i]? = some u → bss[i]? = some b → RdB I u b
/-! ### A law's beginning and end -/
theorem St.start (w : World) : St w w (fun b => w.heap[b]?) [] := ⟨rfl, rfl, rfl, fun _ _ h => h, fun p hp => absurd hp (List.not_mem_nil), fun p hp => absurd hp (List.not_mem_nil), List.nodup_nil⟩
theorem St.below {w w' : World} {I' : Imm} {L : Own} (h : St w w' I' L) (hI : Imm.le (fun b => w.heap[b]?) I') : Below w.heap.size w w' := by
  have hb : ∀ k, k < w.heap.size → w'.heap[k]? = w.heap[k]? := fun k hk => by
    have h1 : w.heap[k]? = some w.heap[k] := Array.getElem?_eq_getElem hk
    rw [h1]
    exact h.imm k _ (hI k _ h1)
  refine ⟨h.os, h.tape, h.out, ?_, hb⟩
  rcases Nat.lt_or_ge w'.heap.size w.heap.size with hlt | hge
  · have h1 := hb w'.heap.size hlt
    rw [Array.getElem?_eq_none (Nat.le_refl _), Array.getElem?_eq_getElem hlt] at h1
    cases h1
  · exact hge
theorem wf_i64 {n : Int} (h : (Lit.int .i64 n).wf = true) : -9223372036854775808 ≤ n ∧ n ≤ 9223372036854775807 := by
  simp only [Lit.wf, Bool.and_eq_true, decide_eq_true_eq] at h
  exact h
theorem wf_u8 {n : Int} (h : (Lit.int .u8 n).wf = true) : 0 ≤ n ∧ n ≤ 255 := by
  simp only [Lit.wf, Bool.and_eq_true, decide_eq_true_eq] at h
  exact h
theorem b8_u8 {n : Int} (h : 0 ≤ n ∧ n ≤ 255) : b8 (u8 n) = .int .u8 n := by
  unfold b8
  rw [u8_toNat]
  congr 1
  omega
theorem RdL.of_row {k : IntKind} {w : World} {a : Option Addr} {len cap : Nat} {zs : List Int} (h : (a = none ∧ len = 0 ∧ cap = 0 ∧ zs = []) ∨
    ∃ x, a = some x ∧ len ≤ cap ∧ cap ≤ Go.maxLen ∧ zs.length = cap ∧ (∀ i, i < zs.length → w.cell? (x.add i) = some (.int k (zs.getD i 0))) ∧ ∀ n ∈ zs, (Lit.int k n).wf = true) :
    RdL (fun b => w.heap[b]?) 1 (.slice a len cap) len ((zs.take len).map fun n => .int k n) ∧ (zs.take len).length = len ∧ len ≤ 9223372036854775807 := by
  rcases h with ⟨rfl, rfl, rfl, rfl⟩ | ⟨x, rfl, h1, h2, h3, h4, h5⟩
  · exact ⟨RdL.nil 1, rfl, by decide⟩
  · have hl : (zs.take len).length = len := by rw [List.length_take]; omega
    refine ⟨⟨by rw [List.length_map, hl, Nat.mul_one], fun u hu => ?_, some x, cap, rfl, h1, fun j u hj => ⟨x, rfl, ?_⟩⟩, hl, by unfold Go.maxLen at h2; omega⟩
    · obtain ⟨n, _, rfl⟩ := List.mem_map.1 hu; rfl
    · rw [List.getElem?_map] at hj
      cases hz : (zs.take len)[j]? with
      | none => rw [hz] at hj; cases hj
      | some n =>
        rw [hz] at hj
        have hjl := (List.getElem?_eq_some_iff.1 hz).1
        have hj2 : j < zs.length := by omega
        have e : zs.getD j 0 = n := by
          rw [List.getElem?_take_of_lt (by omega)] at hz
          simp [List.getD_eq_getElem?_getD, hz]
        have h6 := h4 j hj2
        rw [e] at h6
        cases hj
        exact h6
theorem RdB.of_row {w : World} {a : Option Addr} {len cap : Nat} {zs : List Int} (h : (a = none ∧ len = 0 ∧ cap = 0 ∧ zs = []) ∨
    ∃ x, a = some x ∧ len ≤ cap ∧ cap ≤ Go.maxLen ∧ zs.length = cap ∧ (∀ i, i < zs.length → w.cell? (x.add i) = some (.int .u8 (zs.getD i 0))) ∧ ∀ n ∈ zs, (Lit.int .u8 n).wf = true) :
    ∃ bs, RdB (fun b => w.heap[b]?) (.slice a len cap) bs ∧ bs.length ≤ 9223372036854775807 := by
  have hw : ∀ n ∈ zs, 0 ≤ n ∧ n ≤ 255 := by
    rcases h with ⟨_, _, _, rfl⟩ | ⟨_, _, _, _, _, _, h⟩
    · simp
    · exact fun n hn => wf_u8 (h n hn)
  obtain ⟨h1, h2, h3⟩ := RdL.of_row h
  refine ⟨(zs.take len).map u8, ?_, by rw [List.length_map, h2]; exact h3⟩
  unfold RdB
  rw [List.length_map, h2, List.map_map]
  have e : (zs.take len).map (b8 ∘ u8) = (zs.take len).map fun n => Value.int .u8 n := List.map_congr_left fun n hn => b8_u8 (hw n (List.mem_of_mem_take hn))
  rw [e]
  exact h1
theorem RdI.of_row {w : World} {a : Option Addr} {len cap : Nat} {zs : List Int} (h : (a = none ∧ len = 0 ∧ cap = 0 ∧ zs = []) ∨
    ∃ x, a = some x ∧ len ≤ cap ∧ cap ≤ Go.maxLen ∧ zs.length = cap ∧ (∀ i, i < zs.length → w.cell? (x.add i) = some (.int .i64 (zs.getD i 0))) ∧ ∀ n ∈ zs, (Lit.int .i64 n).wf = true) :
    ∃ xs, RdI (fun b => w.heap[b]?) (.slice a len cap) xs ∧ xs.length ≤ 9223372036854775807 ∧ ∀ n ∈ xs, -9223372036854775808 ≤ n ∧ n ≤ 9223372036854775807 := by
  have hw : ∀ n ∈ zs, -9223372036854775808 ≤ n ∧ n ≤ 9223372036854775807 := by
    rcases h with ⟨_, _, _, rfl⟩ | ⟨_, _, _, _, _, _, h⟩
    · simp
    · exact fun n hn => wf_i64 (h n hn)
  obtain ⟨h1, h2, h3⟩ := RdL.of_row h
  refine ⟨zs.take len, ?_, by rw [h2]; exact h3, fun n hn => hw n (List.mem_of_mem_take hn)⟩
  unfold RdI
  rw [h2]
  exact h1
end Go.Proofs.YtlmmpcdjkpibcaaX
