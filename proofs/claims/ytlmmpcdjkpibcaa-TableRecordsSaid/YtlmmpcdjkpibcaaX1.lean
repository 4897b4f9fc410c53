/- The world as a walk knows it: blocks that nobody writes any more (I), blocks that are the walk's own (L); loads, stores, new blocks. Own lemmas, no program in sight. -/
import Derived.Test.YtlmmpcdjkpibcaaX0
import Derived.WalkKit
import Derived.Laws.OwnMore
import Derived.Laws.Rows
import Derived.WalkSpells
namespace Go.Proofs.YtlmmpcdjkpibcaaX
set_option linter.unusedVariables false
set_option linter.unusedSimpArgs false
open Go Go.RowKit

abbrev Imm := Nat → Option Obj
abbrev Own := List (Nat × Obj)
def Imm.le (I I' : Imm) : Prop := ∀ b o, I b = some o → I' b = some o
theorem Imm.le.refl (I : Imm) : I.le I := fun _ _ h => h
theorem Imm.le.trans {I I' I'' : Imm} (h : I.le I') (h' : I'.le I'') : I.le I'' := fun b o hb => h' b o (h b o hb)
def Imm.cell? (I : Imm) (a : Addr) : Option Value :=
  match I a.block with
  | some (.cells c _ _) => if a.spot.isSome then none else c[a.off]?
  | _ => none
theorem Imm.le.cell {I I' : Imm} (h : I.le I') {a : Addr} {v : Value} (hc : I.cell? a = some v) : I'.cell? a = some v := by
  unfold Imm.cell? at hc ⊢
  cases hb : I a.block with
  | none => simp [hb] at hc
  | some o => rw [h _ _ hb]; rw [hb] at hc; exact hc

/-- The world w, begun at w0: what I says stands there, and what L says; L's blocks are apart. -/
structure St (w0 w : World) (I : Imm) (L : Own) : Prop where
  os : w.os = w0.os
  tape : w.tape = w0.tape
  out : w.output = w0.output
  imm : ∀ b o, I b = some o → w.heap[b]? = some o
  own : ∀ p ∈ L, w.heap[p.1]? = some p.2
  sep : ∀ p ∈ L, I p.1 = none
  nd : (L.map (·.1)).Nodup
variable {w0 w : World} {I : Imm} {L : Own}
theorem St.draw (h : St w0 w I L) : St w0 { w with drawn := w.drawn + 1 } I L := ⟨h.os, h.tape, h.out, h.imm, h.own, h.sep, h.nd⟩
theorem St.lt (h : St w0 w I L) {b : Nat} {o : Obj} (hb : I b = some o) : b < w.heap.size := (Array.getElem?_eq_some_iff.1 (h.imm b o hb)).1
theorem St.lt_own (h : St w0 w I L) {p : Nat × Obj} (hp : p ∈ L) : p.1 < w.heap.size := (Array.getElem?_eq_some_iff.1 (h.own p hp)).1
theorem St.perm (h : St w0 w I L) {L' : Own} (hp : L.Perm L') : St w0 w I L' :=
  ⟨h.os, h.tape, h.out, h.imm, fun p hm => h.own p (hp.mem_iff.2 hm), fun p hm => h.sep p (hp.mem_iff.2 hm), (hp.map (·.1)).nodup_iff.1 h.nd⟩
theorem St.sub (h : St w0 w I L) {L' : Own} (hp : L'.Sublist L) : St w0 w I L' :=
  ⟨h.os, h.tape, h.out, h.imm, fun p hm => h.own p (hp.mem hm), fun p hm => h.sep p (hp.mem hm), h.nd.sublist (hp.map _)⟩
theorem St.drop1 {p : Nat × Obj} (h : St w0 w I (p :: L)) : St w0 w I L := h.sub (List.sublist_cons_self _ _)
/-- A block becomes one that nobody writes any more. -/
def Imm.add (I : Imm) (b : Nat) (o : Obj) : Imm := fun k => if k = b then some o else I k
theorem Imm.add_at (I : Imm) (b : Nat) (o : Obj) : I.add b o b = some o := by simp [Imm.add]
theorem St.freeze {b : Nat} {o : Obj} (h : St w0 w I ((b, o) :: L)) : St w0 w (I.add b o) L ∧ I.le (I.add b o) := by
  have hn : I b = none := h.sep (b, o) (by simp)
  have hne : ∀ p ∈ L, p.1 ≠ b := fun p hp e => by
    have := h.nd
    simp only [List.map_cons, List.nodup_cons, List.mem_map, not_exists, not_and] at this
    exact this.1 p hp e
  refine ⟨⟨h.os, h.tape, h.out, fun k o' hk => ?_, fun p hp => h.own p (List.mem_cons_of_mem _ hp), fun p hp => ?_, ?_⟩, fun k o' hk => ?_⟩
  · unfold Imm.add at hk
    split at hk
    · rename_i e; subst e; cases hk; exact h.own (k, o) (List.mem_cons_self ..)
    · exact h.imm _ _ hk
  · unfold Imm.add
    rw [if_neg (hne p hp)]
    exact h.sep p (List.mem_cons_of_mem _ hp)
  · have := h.nd
    simp only [List.map_cons, List.nodup_cons] at this
    exact this.2
  · unfold Imm.add
    rw [if_neg (fun e => by subst e; rw [hn] at hk; cases hk)]
    exact hk
theorem St.heap_new (h : St w0 w I L) (o : Obj) : St w0 (w.alloc o) I ((w.heap.size, o) :: L) := by
  have hk : ∀ k, k < w.heap.size → (w.alloc o).heap[k]? = w.heap[k]? := fun k hk => Below.heap_alloc _ _ _ hk
  refine ⟨h.os, h.tape, h.out, fun b o' hb => by rw [hk b (h.lt hb)]; exact h.imm b o' hb, fun p hp => ?_, fun p hp => ?_, ?_⟩
  · rcases List.mem_cons.1 hp with rfl | hp
    · show (w.heap.push o)[w.heap.size]? = some o
      exact Array.getElem?_push_size
    · rw [hk _ (h.lt_own hp)]; exact h.own p hp
  · rcases List.mem_cons.1 hp with rfl | hp
    · cases e : I w.heap.size with
      | none => rfl
      | some o' => exact absurd (h.lt e) (Nat.lt_irrefl _)
    · exact h.sep p hp
  · simp only [List.map_cons, List.nodup_cons]
    refine ⟨fun hm => ?_, h.nd⟩
    obtain ⟨p, hp, he⟩ := List.mem_map.1 hm
    have := h.lt_own hp
    omega
theorem St.drewN (h : St w0 w I L) : St w0 w.drew I L := ⟨h.os, h.tape, h.out, h.imm, h.own, h.sep, h.nd⟩
/-- One of the walk's own blocks is written anew. -/
theorem St.put (h : St w0 w I L) {k : Nat} {b : Nat} {o o' : Obj} {w' : World} (hL : L[k]? = some (b, o)) (hos : w'.os = w.os) (ht : w'.tape = w.tape) (hout : w'.output = w.output)
    (hb : w'.heap[b]? = some o') (hr : ∀ j, j ≠ b → j < w.heap.size → w'.heap[j]? = w.heap[j]?) : St w0 w' I (L.set k (b, o')) := by
  have hm : (b, o) ∈ L := List.mem_of_getElem? hL
  have hbn := h.sep _ hm
  obtain ⟨hk, hLk⟩ := List.getElem?_eq_some_iff.1 hL
  have hmap : (L.set k (b, o')).map (·.1) = L.map (·.1) := by
    rw [List.map_set]
    have : (L.map (·.1))[k]? = some b := by rw [List.getElem?_map, hL]; rfl
    obtain ⟨hk', e⟩ := List.getElem?_eq_some_iff.1 this
    show (L.map (·.1)).set k b = _
    rw [← e, List.set_getElem_self]
  have hother : ∀ j (p : Nat × Obj), j ≠ k → L[j]? = some p → p.1 ≠ b := fun j p hj hp e => by
    have h1 : (L.map (·.1))[k]? = some b := by rw [List.getElem?_map, hL]; rfl
    have h2 : (L.map (·.1))[j]? = some b := by rw [List.getElem?_map, hp, ← e]; rfl
    have hjl := (List.getElem?_eq_some_iff.1 h2).1
    exact hj ((List.getElem?_inj hjl h.nd).1 (by rw [h1, h2]))
  have mem : ∀ p ∈ L.set k (b, o'), p = (b, o') ∨ (p ∈ L ∧ p.1 ≠ b) := fun p hp => by
    obtain ⟨j, hj⟩ := List.getElem?_of_mem hp
    rw [List.getElem?_set] at hj
    split at hj
    · first
        | exact Or.inl (Option.some.inj hj).symm
        | (rw [if_pos hk] at hj; exact Or.inl (Option.some.inj hj).symm)
    · rename_i e
      exact Or.inr ⟨List.mem_of_getElem? hj, hother j p (fun e' => e e'.symm) hj⟩
  refine ⟨hos.trans h.os, ht.trans h.tape, hout.trans h.out, fun j oj hj => ?_, fun p hp => ?_, fun p hp => ?_, ?_⟩
  · have hne : j ≠ b := fun e => by subst e; rw [hbn] at hj; cases hj
    rw [hr j hne (h.lt hj)]
    exact h.imm j oj hj
  · rcases mem p hp with rfl | ⟨hp', hne⟩
    · exact hb
    · rw [hr _ hne (h.lt_own hp')]
      exact h.own p hp'
  · rcases mem p hp with rfl | ⟨hp', _⟩
    · exact hbn
    · exact h.sep p hp'
  · rw [hmap]; exact h.nd

/-! ### Cells -/
theorem St.cell_imm (h : St w0 w I L) {a : Addr} {v : Value} (hc : I.cell? a = some v) : w.cell? a = some v := by
  unfold Imm.cell? at hc
  unfold World.cell?
  cases hb : I a.block with
  | none => simp [hb] at hc
  | some o => rw [h.imm _ _ hb]; rw [hb] at hc; exact hc
theorem St.cell_own (h : St w0 w I L) {k b off : Nat} {cs : Array Value} {T : TypeId} {fz : Nat × Nat} {v : Value} (hL : L[k]? = some (b, .cells cs T fz)) (hi : cs[off]? = some v) : w.cell? ⟨b, off, none⟩ = some v := by
  unfold World.cell?
  rw [h.own (b, .cells cs T fz) (List.mem_of_getElem? hL)]
  simpa using hi
/-- Not a row of one or more cells. -/
def isScalar (P : Program) (T : TypeId) : Bool := match P.underlying T with
  | some (.struct _) => false
  | some (.array _ _) => false
  | some _ => true
  | none => false
def isAggT (P : Program) (T : TypeId) : Bool := match P.underlying T with
  | some (.struct _) => true
  | some (.array _ _) => true
  | _ => false
/-- What the tables say of a type: its zero value, how many cells, how many bytes. -/
def TI (P : Program) (T : TypeId) (z : Value) (size bytes : Nat) : Prop := (P.info? T).map (fun i => (i.zero, i.size, i.bytes)) = some (some z, size, bytes)
theorem TI.get {P : Program} {T : TypeId} {z : Value} {size bytes : Nat} (h : TI P T z size bytes) : ∃ i, P.info? T = some i ∧ i.zero = some z ∧ i.size = size ∧ i.bytes = bytes := by
  unfold TI at h
  cases hi : P.info? T with
  | none => simp [hi] at h
  | some i => simp [hi] at h; exact ⟨i, rfl, h.1, h.2.1, h.2.2⟩
theorem TI.run_size {P : Program} {T : TypeId} {z : Value} {size bytes : Nat} (h : TI P T z size bytes) (w : World) : (sizeOf T).run P w = .ok size w := by
  obtain ⟨i, h1, _, h3, _⟩ := h.get
  rw [run_sizeOf w h1]
  simp [Program.cellsOf, h1, h3]
theorem TI.run_zero {P : Program} {T : TypeId} {z : Value} {size bytes : Nat} (h : TI P T z size bytes) (w : World) : (zeroValue T).run P w = .ok z w := by
  obtain ⟨i, h1, h2, _, _⟩ := h.get
  unfold zeroValue
  simp [Sem.run_bind, run_typeInfo w h1, h2, Result.andThen]

/-! ### What operations come to -/
section
variable {P : Program} {l : Env} {ty : TypeId}
/-- Of one value. -/
theorem Runs.of {o : Op} {v : Value} {w' : World} (S : (Operand → Value) → Sem Value) (h1 : ∀ ρ dst pos after guard, execOp ρ ⟨dst, o, ty, pos, after, guard⟩ = (do pure (.value (← S ρ))))
    (h2 : ∀ ρ, (∀ x v, ev l x = some v → ρ x = v) → (S ρ).run P w = .ok v w') : Runs P o ty l w (.value v) w' := fun ρ hρ dst pos after guard => by
  rw [h1]; simp [go_sem, h2 ρ hρ]
theorem Runs.ofU {o : Op} {w' : World} (S : (Operand → Value) → Sem Unit) (h1 : ∀ ρ dst pos after guard, execOp ρ ⟨dst, o, ty, pos, after, guard⟩ = (do S ρ; pure .skip))
    (h2 : ∀ ρ, (∀ x v, ev l x = some v → ρ x = v) → (S ρ).run P w = .ok () w') : Runs P o ty l w .skip w' := fun ρ hρ dst pos after guard => by
  rw [h1]; simp [go_sem, h2 ρ hρ]
theorem runs_move {x : Operand} {v : Value} (h : ev l x = some v) : Runs P (.move x) ty l w (.value v) w := fun ρ hρ _ _ _ _ => by
  simp [execOp, hρ x v h, pure]
theorem runs_assign {x : Operand} {v : Value} (h : ev l x = some v) : Runs P (.assign x) ty l w (.value v) w := fun ρ hρ _ _ _ _ => by
  simp [execOp, hρ x v h, pure]
theorem runs_pick {c x y : Operand} {b : Bool} {v u : Value} (hc : ev l c = some (.bool b)) (hx : ev l x = some v) (hy : ev l y = some u) :
    Runs P (.pick c x y) ty l w (.value (if b then v else u)) w := fun ρ hρ _ _ _ _ => by
  simp [execOp, hρ c _ hc, hρ x _ hx, hρ y _ hy, asBool, pure, Bind.bind, Sem.bind]
theorem runs_pick_true {c x y : Operand} {b : Bool} {v : Value} (hc : ev l c = some (.bool b)) (hb : b = true) (hx : ev l x = some v) :
    Runs P (.pick c x y) ty l w (.value v) w := fun ρ hρ _ _ _ _ => by
  subst hb
  simp [execOp, hρ c _ hc, hρ x _ hx, asBool, pure, Bind.bind, Sem.bind]
theorem runs_pick_false {c x y : Operand} {b : Bool} {v : Value} (hc : ev l c = some (.bool b)) (hb : b = false) (hx : ev l y = some v) :
    Runs P (.pick c x y) ty l w (.value v) w := fun ρ hρ _ _ _ _ => by
  subst hb
  simp [execOp, hρ c _ hc, hρ y _ hx, asBool, pure, Bind.bind, Sem.bind]
theorem runs_nilCheck {x : Operand} {a : Addr} (h : ev l x = some (.pointer (some a))) : Runs P (.nilCheck x) ty l w (.value (.pointer (some a))) w := fun ρ hρ _ _ _ _ => by
  simp [execOp, hρ x _ h, pure]
theorem runs_extract {x : Operand} {k : Nat} {vs : List Value} {v : Value} (h : ev l x = some (.tuple vs.toArray)) (hk : vs[k]? = some v) : Runs P (.extract x k) ty l w (.value v) w :=
  .of (fun ρ => Instr.extract (ρ x) k) (fun _ _ _ _ _ => rfl) fun ρ hρ => by simp [hρ x _ h, Instr.extract, hk, go_sem]
theorem runs_fieldAddr {x : Operand} {s f : Nat} {a : Addr} {fields : Array Field} {fd : Field} {z : Value} {size bytes : Nat} (h : ev l x = some (.pointer (some a))) (hs : P.underlying s = some (.struct fields)) (hf : fields[f]? = some fd)
    (ht : TI P fd.type z size bytes) (hz : size ≠ 0) : Runs P (.fieldAddr s x f) ty l w (.value (.pointer (some (a.add fd.offset)))) w :=
  .of (fun ρ => Instr.fieldAt s (ρ x) f) (fun _ _ _ _ _ => rfl) fun ρ hρ => by
    simp [hρ x _ h, Instr.fieldAt, go_sem, run_underlying hs, hf, Instr.sureAddr, fieldPlace, ht.run_size, hz]
/-- Loads. -/
theorem runs_load1 {x : Operand} {T : TypeId} {a : Addr} {v : Value} (hT : isScalar P T = true) (h : ev l x = some (.pointer (some a))) (hc : w.cell? a = some v) : Runs P (.load T x) ty l w (.value v) w :=
  .of (fun ρ => Instr.loadAt T (ρ x)) (fun _ _ _ _ _ => rfl) fun ρ hρ => by
    unfold isScalar at hT
    have : ∃ d, P.underlying T = some d ∧ (∀ fs, d ≠ .struct fs) ∧ (∀ n e, d ≠ .array n e) := by
      cases hu : P.underlying T with
      | none => simp [hu] at hT
      | some d => rw [hu] at hT; exact ⟨d, rfl, fun fs e => by subst e; simp at hT, fun n k e => by subst e; simp at hT⟩
    obtain ⟨d, hd, h1, h2⟩ := this
    have h3 : (isAgg T).run P w = .ok false w := by
      unfold isAgg
      cases d <;> first | exact absurd rfl (h1 _) | exact absurd rfl (h2 _ _) | simp [go_sem, run_underlying hd]
    simp [hρ x _ h, Instr.loadAt, go_sem, Instr.sureAddr, loadVar, h3, load, Sem.run, hc]
theorem run_isAgg {T : TypeId} (hT : isAggT P T = true) : (isAgg T).run P w = .ok true w := by
  unfold isAggT at hT
  unfold isAgg
  cases hu : P.underlying T with
  | none => simp [hu] at hT
  | some d => rw [hu] at hT; cases d <;> simp at hT <;> simp [go_sem, run_underlying hu]
theorem runs_loadA {x : Operand} {T : TypeId} {a : Addr} {vs : List Value} {z : Value} {bytes : Nat} (hT : isAggT P T = true) (ht : TI P T z vs.length bytes) (h : ev l x = some (.pointer (some a)))
    (hc : ∀ j v, vs[j]? = some v → w.cell? (a.add j) = some v) : Runs P (.load T x) ty l w (.value (.agg vs.toArray)) w :=
  .of (fun ρ => Instr.loadAt T (ρ x)) (fun _ _ _ _ _ => rfl) fun ρ hρ => by
    have := run_loadCells_list (P := P) w a vs hc
    unfold loadCells at this
    simp [hρ x _ h, Instr.loadAt, go_sem, Instr.sureAddr, loadVar, run_isAgg hT, ht.run_size, this]
theorem St.cells_own (h : St w0 w I L) {k b off : Nat} {cs : Array Value} {T : TypeId} {fz : Nat × Nat} {vs : List Value} (hL : L[k]? = some (b, .cells cs T fz)) (hv : (cs.toList.drop off).take vs.length = vs) :
    ∀ j v, vs[j]? = some v → w.cell? ((⟨b, off, none⟩ : Addr).add j) = some v := fun j v hj => by
  have h1 : ((⟨b, off, none⟩ : Addr).add j) = ⟨b, off + j, none⟩ := by unfold Addr.add; split <;> simp_all
  rw [h1]
  refine h.cell_own hL ?_
  have hjl : j < vs.length := (List.getElem?_eq_some_iff.1 hj).1
  rw [← hv, List.getElem?_take, if_pos hjl, List.getElem?_drop] at hj
  simpa using hj
/-- New blocks. -/
theorem runs_alloc {T : TypeId} {z : Value} {size bytes : Nat} (ht : TI P T z size bytes) (hst : St w0 w I L) :
    ∃ v w', Runs P (.alloc T) ty l w (.value v) w' ∧ ∃ b, v = .pointer (some ⟨b, 0, none⟩) ∧ St w0 w' I ((b, .cells z.cells T) :: L) :=
  ⟨_, _, .of (fun _ => Instr.alloc T true (.tuple #[])) (fun _ _ _ _ _ => rfl) fun ρ hρ => by
    simp [Instr.alloc, go_sem, ht.run_zero, newVar, newRow, newObj]; rfl, _, rfl, hst.heap_new _⟩
theorem runs_box {T : TypeId} {x : Operand} {v : Value} (h : ev l x = some v) (hst : St w0 w I L) :
    ∃ u w', Runs P (.box T x) ty l w (.value u) w' ∧ ∃ b, u = .pointer (some ⟨b, 0, none⟩) ∧ St w0 w' I ((b, .cells v.cells T) :: L) :=
  ⟨_, _, .of (fun ρ => Instr.box T (ρ x)) (fun _ _ _ _ _ => rfl) fun ρ hρ => by
    simp [Instr.box, go_sem, hρ x v h, newVar, newRow, newObj]; rfl, _, rfl, hst.heap_new _⟩
/-- Stores into one of the walk's own blocks: one cell; several. -/
theorem World.heap_setCell_at {w : World} {b off : Nat} {cs : Array Value} {T : TypeId} {fz : Nat × Nat} {v : Value} (h : w.heap[b]? = some (.cells cs T fz)) : (w.setCell ⟨b, off, none⟩ v).heap[b]? = some (.cells (cs.setIfInBounds off v) T fz) := by
  simp [World.setCell, Array.getElem?_modify, h]
def NoFz (n : Nat) (fz : Nat × Nat) : Prop := ∀ o, o < n → (decide (fz.1 ≤ o) && decide (o < fz.2)) = false
theorem NoFz.zero (n : Nat) : NoFz n (0, 0) := fun o _ => by simp
theorem St.run_store1 (hst : St w0 w I L) {k b off : Nat} {cs : Array Value} {T : TypeId} {fz : Nat × Nat} {v : Value} (hL : L[k]? = some (b, .cells cs T fz)) (hoff : off < cs.size) (hfz : NoFz cs.size fz) (hv : v.oneCell' = true) :
    (store ⟨b, off, none⟩ v).run P w = .ok () (w.setCell ⟨b, off, none⟩ v) ∧ St w0 (w.setCell ⟨b, off, none⟩ v) I (L.set k (b, .cells (cs.setIfInBounds off v) T fz)) := by
  have hb := hst.own _ (List.mem_of_getElem? hL)
  have hc : w.cell? ⟨b, off, none⟩ = some cs[off] := by
    unfold World.cell?; rw [hb]; simp [hoff]
  have hf : w.frozen? ⟨b, off, none⟩ = false := by
    unfold World.frozen?; rw [hb]; exact hfz off hoff
  refine ⟨?_, hst.put hL rfl rfl rfl (World.heap_setCell_at hb) fun j hj _ => Below.heap_setCell _ _ _ _ hj⟩
  unfold store
  cases v <;> first | (simp [Sem.run, hc, hf]; done) | (simp [Value.oneCell'] at hv; done)
theorem St.run_stores (vs : List Value) : ∀ {w : World} {L : Own} (_ : St w0 w I L) {k b off : Nat} {cs : Array Value} {T : TypeId} {fz : Nat × Nat} (_ : L[k]? = some (b, .cells cs T fz)) (i : Nat) (_ : off + i + vs.length ≤ cs.size) (_ : NoFz cs.size fz) (_ : ∀ v ∈ vs, v.oneCell' = true),
    ∃ w', (storeCells ⟨b, off, none⟩ vs i).run P w = .ok () w' ∧ St w0 w' I (L.set k (b, .cells (cs.toList.take (off + i) ++ vs ++ cs.toList.drop (off + i + vs.length)).toArray T fz)) := by
  induction vs with
  | nil =>
    intro w L hst k b off cs T fz hL i hle _ _
    refine ⟨w, rfl, ?_⟩
    simp only [List.append_nil, List.length_nil, Nat.add_zero, List.take_append_drop, Array.toArray_toList]
    obtain ⟨hk, e⟩ := List.getElem?_eq_some_iff.1 hL
    rw [← e, List.set_getElem_self]
    exact hst
  | cons v r ih =>
    intro w L hst k b off cs T fz hL i hle hfz hv
    simp only [List.length_cons] at hle
    have hadd : ((⟨b, off, none⟩ : Addr).add i) = ⟨b, off + i, none⟩ := by unfold Addr.add; split <;> simp_all
    obtain ⟨h1, h2⟩ := hst.run_store1 (P := P) hL (off := off + i) (by omega) hfz (hv v (List.mem_cons_self ..))
    obtain ⟨hk, _⟩ := List.getElem?_eq_some_iff.1 hL
    obtain ⟨w', h3, h4⟩ := ih h2 (k := k) (b := b) (off := off) (cs := cs.setIfInBounds (off + i) v) (T := T) (fz := fz) (by simp [hk]) (i + 1) (by simp; omega) (by simpa using hfz) (fun u hu => hv u (List.mem_cons_of_mem _ hu))
    refine ⟨w', ?_, ?_⟩
    · rw [storeCells, hadd]
      simp [go_sem, h1, h3]
    · rw [List.set_set] at h4
      have e : ((cs.setIfInBounds (off + i) v).toList.take (off + (i + 1)) ++ r ++ (cs.setIfInBounds (off + i) v).toList.drop (off + (i + 1) + r.length)) = cs.toList.take (off + i) ++ v :: r ++ cs.toList.drop (off + i + (v :: r).length) := by
        rw [Array.toList_setIfInBounds]
        have hlen : off + i < cs.toList.length := by simp; omega
        rw [List.set_eq_take_append_cons_drop, if_pos hlen]
        have ht : (cs.toList.take (off + i)).length = off + i := by rw [List.length_take]; omega
        rw [List.take_append, List.drop_append, ht]
        have e1 : off + (i + 1) - (off + i) = 1 := by omega
        have e2 : off + (i + 1) + r.length - (off + i) = r.length + 1 := by omega
        rw [e1, e2, List.take_of_length_le (l := cs.toList.take (off + i)) (by omega), List.drop_eq_nil_of_le (as := cs.toList.take (off + i)) (by omega)]
        simp only [List.take_succ_cons, List.take_zero, List.nil_append, List.drop_succ_cons, List.drop_drop, List.length_cons, List.append_assoc, List.cons_append]
        rw [show off + i + (r.length + 1) = off + i + 1 + r.length from by omega]
      rw [e] at h4
      exact h4
theorem runs_store1 {x y : Operand} {S : TypeId} {z : Value} {bytes : Nat} {k b off : Nat} {cs : Array Value} {T : TypeId} {fz : Nat × Nat} {v : Value} (ht : TI P S z 1 bytes) (hx : ev l x = some (.pointer (some ⟨b, off, none⟩))) (hy : ev l y = some v) (hst : St w0 w I L)
    (hL : L[k]? = some (b, .cells cs T fz)) (hoff : off < cs.size) (hfz : NoFz cs.size fz) (hv : v.oneCell' = true) :
    ∃ w', Runs P (.store S x y) ty l w .skip w' ∧ St w0 w' I (L.set k (b, .cells (cs.setIfInBounds off v) T fz)) :=
  let ⟨h1, h2⟩ := hst.run_store1 (P := P) hL hoff hfz hv
  ⟨_, .ofU (fun ρ => Instr.storeAt S (ρ x) (ρ y)) (fun _ _ _ _ _ => rfl) fun ρ hρ => by
    have hc : v.cells = #[v] := by cases v <;> first | rfl | (simp [Value.oneCell'] at hv; done)
    have h0 : ((⟨b, off, none⟩ : Addr).add 0) = ⟨b, off, none⟩ := rfl
    have h3 : (storeCells ⟨b, off, none⟩ [v] 0).run P w = .ok () (w.setCell ⟨b, off, none⟩ v) := by
      rw [storeCells, h0, Sem.run_bind, h1]; rfl
    have h4 : (storeVar S ⟨b, off, none⟩ v).run P w = .ok () (w.setCell ⟨b, off, none⟩ v) := by
      unfold storeVar
      rw [Sem.run_bind, ht.run_size, hc]
      exact h3
    simp only [hρ x _ hx, hρ y _ hy, Instr.storeAt, Instr.sureAddr]
    rw [Sem.run_bind]
    exact h4, h2⟩
theorem runs_storeA {x y : Operand} {S : TypeId} {z : Value} {bytes : Nat} {k b off : Nat} {cs : Array Value} {T : TypeId} {fz : Nat × Nat} {vs : List Value} (ht : TI P S z vs.length bytes) (hx : ev l x = some (.pointer (some ⟨b, off, none⟩))) (hy : ev l y = some (.agg vs.toArray)) (hst : St w0 w I L)
    (hL : L[k]? = some (b, .cells cs T fz)) (hoff : off + vs.length ≤ cs.size) (hfz : NoFz cs.size fz) (hv : ∀ v ∈ vs, v.oneCell' = true) :
    ∃ w', Runs P (.store S x y) ty l w .skip w' ∧ St w0 w' I (L.set k (b, .cells (cs.toList.take off ++ vs ++ cs.toList.drop (off + vs.length)).toArray T fz)) :=
by
  obtain ⟨w', h1, h2⟩ := St.run_stores (P := P) vs hst hL 0 (by simpa using hoff) hfz hv
  exact ⟨w', .ofU (fun ρ => Instr.storeAt S (ρ x) (ρ y)) (fun _ _ _ _ _ => rfl) fun ρ hρ => by
    simp [hρ x _ hx, hρ y _ hy, Instr.storeAt, go_sem, Instr.sureAddr, storeVar, ht.run_size, Value.cells, h1], by simpa using h2⟩
end
end Go.Proofs.YtlmmpcdjkpibcaaX
