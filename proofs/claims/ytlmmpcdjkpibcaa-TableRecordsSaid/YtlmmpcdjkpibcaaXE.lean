/- Rows of one's own slices: read, written, copied over; slices of arrays. Own lemmas, no program in sight. -/
import Derived.Test.YtlmmpcdjkpibcaaXC
import Derived.Laws.CopyRow
import Derived.Laws.IdiomCopy
namespace Go.Proofs.YtlmmpcdjkpibcaaX
set_option linter.unusedVariables false
set_option linter.unusedSimpArgs false
open Go Go.RowKit
variable {w0 w : World} {I : Imm} {L : Own} {P : Program} {l : Env} {ty : TypeId} {N : Nat}

theorem slPtr_add (g n c k j : Nat) : (slPtr (.slice (some ⟨g, 0, none⟩) n c) k).add j = slPtr (.slice (some ⟨g, 0, none⟩) n c) (k + j) := by
  simp only [slPtr]
  rw [Addr.add_add]
theorem slPtr_lit (g n c k : Nat) : slPtr (.slice (some ⟨g, 0, none⟩) n c) k = ⟨g, k, none⟩ := by
  simp only [slPtr]
  rw [add_lit, Nat.zero_add]
theorem Grow.cell {e : TypeId} {size n : Nat} {v : Value} {xs : List Value} {Lv : Own} (hg : Grow e size v n xs Lv) (hst : St w0 w I L) (hsub : ∀ p ∈ Lv, p ∈ L) {j : Nat} {u : Value} (hj : xs[j]? = some u) : w.cell? (slPtr v j) = some u := by
  obtain ⟨h1, h0, ⟨rfl, rfl, rfl⟩ | ⟨g, cap, cur, rfl, rfl, h3, h4, h5, h6⟩⟩ := hg
  · have : xs = [] := List.eq_nil_of_length_eq_zero (by simpa using h1)
    subst this
    cases hj
  · rw [slPtr_lit]
    obtain ⟨k, hk⟩ := List.getElem?_of_mem (hsub (g, .cells cur e) (List.mem_cons_self ..))
    refine hst.cell_own hk ?_
    rw [← h6, List.getElem?_take] at hj
    split at hj
    · simpa using hj
    · cases hj
theorem Grow.indexAddr {t e e' : TypeId} {x y : Operand} {v : Value} {n : Nat} {xs : List Value} {Lv : Own} {k : IntKind} {i : Int} {z : Value} {size bytes : Nat} (ht : P.underlying t = some (.slice e)) (he : TI P e z size bytes) (hg : Grow e' size v n xs Lv) (hx : ev l x = some v) (hy : ev l y = some (.int k i)) (h : 0 ≤ i ∧ i < n) :
    Runs P (.indexAddr t x y) ty l w (.value (.pointer (some (slPtr v (i.toNat * size))))) w := by
  obtain ⟨h1, h0, ⟨rfl, rfl, rfl⟩ | ⟨g, cap, cur, rfl, rfl, h3, h4, h5, h6⟩⟩ := hg
  · simp at h; omega
  · have := runs_indexAddr0 (w := w) (ty := ty) ht he hx hy h
    rw [slPtr_lit]
    rwa [Nat.zero_add] at this
theorem Grow.loadAt {e T : TypeId} {x : Operand} {z : Value} {n size sz bytes i : Nat} {v : Value} {xs row : List Value} {Lv : Own} (hT : isAggT P T = true) (ht : TI P T z sz bytes) (hg : Grow e size v n xs Lv) (hx : ev l x = some (.pointer (some (slPtr v i)))) (hst : St w0 w I L) (hsub : ∀ p ∈ Lv, p ∈ L) (hlen : row.length = sz)
    (hget : ∀ j u, row[j]? = some u → xs[i + j]? = some u) : Runs P (.load T x) ty l w (.value (.agg row.toArray)) w := by
  refine runs_loadA hT (by rw [hlen]; exact ht) hx fun j u hj => ?_
  have h1 := hg.cell hst hsub (hget j u hj)
  obtain ⟨_, _, ⟨rfl, rfl, rfl⟩ | ⟨g, cap, cur, rfl, rfl, h3, h4, h5, h6⟩⟩ := hg
  · have : xs = [] := List.eq_nil_of_length_eq_zero (by simpa using ‹xs.length = 0 * size›)
    subst this
    have := hget j u hj
    cases this
  · rw [slPtr_add]
    exact h1
theorem Grow.load1 {e T : TypeId} {x : Operand} {n size i : Nat} {v u : Value} {xs : List Value} {Lv : Own} (hT : isScalar P T = true) (hg : Grow e size v n xs Lv) (hx : ev l x = some (.pointer (some (slPtr v i)))) (hst : St w0 w I L) (hsub : ∀ p ∈ Lv, p ∈ L) (hget : xs[i]? = some u) : Runs P (.load T x) ty l w (.value u) w :=
  runs_load1 hT hx (hg.cell hst hsub hget)
theorem set_mid {α : Type} (L1 L2 : List α) (a b : α) : (L1 ++ ([a] ++ L2)).set L1.length b = L1 ++ ([b] ++ L2) := by simp
theorem get_mid {α : Type} (L1 L2 : List α) (a : α) : (L1 ++ ([a] ++ L2))[L1.length]? = some a := by simp
theorem take_over {α : Type} (cur xs vs : List α) (m i : Nat) (h : cur.take m = xs) (hi : i + vs.length ≤ m) (hm : m ≤ cur.length) : (cur.take i ++ vs ++ cur.drop (i + vs.length)).take m = xs.take i ++ vs ++ xs.drop (i + vs.length) := by
  have hxl : xs.length = m := by rw [← h, List.length_take]; omega
  have hc : cur = xs ++ cur.drop m := by rw [← h, List.take_append_drop]
  generalize cur.drop m = rest at hc
  subst hc
  have e1 : (xs ++ rest).take i = xs.take i := List.take_append_of_le_length (by omega)
  have e2 : (xs ++ rest).drop (i + vs.length) = xs.drop (i + vs.length) ++ rest := List.drop_append_of_le_length (by omega)
  rw [e1, e2, ← List.append_assoc, List.take_left' (by simp only [List.length_append, List.length_take, List.length_drop]; omega)]
/-- A row is written over. -/
theorem Grow.storeAt {e S : TypeId} {x y : Operand} {z : Value} {n size sz bytes i : Nat} {v : Value} {xs row : List Value} {L1 L2 Lv : Own} (ht : TI P S z sz bytes) (hg : Grow e size v n xs Lv) (hx : ev l x = some (.pointer (some (slPtr v i)))) (hy : ev l y = some (.agg row.toArray)) (hst : St w0 w I (L1 ++ (Lv ++ L2))) (hlen : row.length = sz)
    (hpos : 0 < n) (hi : i + sz ≤ n * size) (hone : ∀ u ∈ row, u.oneCell' = true) :
    ∃ w', Runs P (.store S x y) ty l w .skip w' ∧ ∃ Lv', St w0 w' I (L1 ++ (Lv' ++ L2)) ∧ Grow e size v n (xs.take i ++ row ++ xs.drop (i + row.length)) Lv' := by
  subst hlen
  obtain ⟨h1, h0, ⟨rfl, rfl, rfl⟩ | ⟨g, cap, cur, rfl, rfl, h3, h4, h5, h6⟩⟩ := hg
  · omega
  · rw [slPtr_lit] at hx
    have hm : n * size ≤ cap * size := Nat.mul_le_mul_right _ h3
    obtain ⟨w', h7, h8⟩ := runs_storeA (ty := ty) ht hx hy hst (get_mid L1 L2 _) (by omega) (NoFz.zero _) hone
    rw [set_mid] at h8
    refine ⟨w', h7, _, h8, ?_, ?_, .inr ⟨g, cap, _, rfl, rfl, h3, h4, ?_, ?_⟩⟩
    · simp only [List.length_append, List.length_take, List.length_drop, h1]; omega
    · intro u hu
      rcases List.mem_append.1 hu with hu | hu
      · rcases List.mem_append.1 hu with hu | hu
        · exact h0 u (List.mem_of_mem_take hu)
        · exact hone u hu
      · exact h0 u (List.mem_of_mem_drop hu)
    · simp only [List.size_toArray, List.length_append, List.length_take, List.length_drop, Array.length_toList]; omega
    · exact take_over cur.toList xs row (n * size) i h6 hi (by rw [Array.length_toList, h5]; exact hm)
/-- A slice of an array. -/
theorem runs_sliceA_h {t e len : Nat} {x y' : Operand} {a : Addr} {k : IntKind} {hi : Int} {z : Value} {size bytes : Nat} (ht : P.underlying t = some (.array len e)) (he : TI P e z size bytes) (hx : ev l x = some (.pointer (some a))) (hy' : ev l y' = some (.int k hi)) (h : 0 ≤ hi ∧ hi ≤ len) :
    Runs P (.slice t x none (some y') none) ty l w (.value (.slice (some a) hi.toNat len)) w :=
  .of (fun ρ => Instr.sliceAt t (ρ x) none (some (ρ y')) none) (fun _ _ _ _ _ => rfl) fun ρ hρ => by
    have b1 := sb_ok (P := P) w (k := k) (i := hi) (y := len) h.1 h.2 .sliceAlen
    have e1 : a.add (0 * size) = a := by rw [Nat.zero_mul]; simp [Addr.add]
    simp only [hρ x _ hx, hρ y' _ hy', Instr.sliceAt, Sem.run_bind, run_underlying ht, Instr.sureAddr, Instr.sliceBounds, b1, Result.andThen, pure, Sem.run, he.run_size, Bool.false_eq_true, if_false, e1, ite_self, Nat.sub_zero]
theorem runs_sliceA {t e len : Nat} {x : Operand} {a : Addr} {z : Value} {size bytes : Nat} (ht : P.underlying t = some (.array len e)) (he : TI P e z size bytes) (hx : ev l x = some (.pointer (some a))) :
    Runs P (.slice t x none none none) ty l w (.value (.slice (some a) len len)) w :=
  .of (fun ρ => Instr.sliceAt t (ρ x) none none none) (fun _ _ _ _ _ => rfl) fun ρ hρ => by
    have e1 : a.add (0 * size) = a := by rw [Nat.zero_mul]; simp [Addr.add]
    simp only [hρ x _ hx, Instr.sliceAt, Sem.run_bind, run_underlying ht, Instr.sureAddr, Instr.sliceBounds, Result.andThen, pure, Sem.run, he.run_size, e1, ite_self, Nat.sub_zero]
/-- The array behind a slice. -/
theorem runs_arrayAt {t e len : Nat} {x : Operand} {v : Value} {n : Nat} {xs : List Value} {size : Nat} (ht : P.underlying t = some (.array len e)) (hx : ev l x = some v) (hr : RdL I size v n xs) (h0 : 0 < n) (hs : 0 < size) (h : len ≤ n) :
    Runs P (.sliceToArrayPointer t x) ty l w (.value (.pointer (some (slPtr v 0)))) w :=
  .of (fun ρ => Instr.arrayAt t (ρ x)) (fun _ _ _ _ _ => rfl) fun ρ hρ => by
    obtain ⟨h1, _, A, cap, rfl, _, h4⟩ := hr
    have hpos : 0 < xs.length := by rw [h1]; exact Nat.mul_pos h0 hs
    obtain ⟨a, rfl, _⟩ := h4 0 xs[0] (by simp [hpos])
    have e1 : slPtr (.slice (some a) n cap) 0 = a := by simp [slPtr, Addr.add]
    rw [e1]
    simp only [hρ x _ hx, Instr.arrayAt, Sem.run_bind, run_underlying ht, Result.andThen]
    rw [if_neg (by omega)]
    rfl
theorem RdL.loadAt {x : Operand} {T : TypeId} {z : Value} {bytes n size sz i : Nat} {v : Value} {xs row : List Value} (hT : isAggT P T = true) (ht : TI P T z sz bytes) (hx : ev l x = some (.pointer (some (slPtr v i)))) (hr : RdL I size v n xs) (hst : St w0 w I L) (hlen : row.length = sz)
    (hget : ∀ j u, row[j]? = some u → xs[i + j]? = some u) : Runs P (.load T x) ty l w (.value (.agg row.toArray)) w := by
  refine runs_loadA hT (by rw [hlen]; exact ht) hx fun j u hj => ?_
  have h1 := hst.cell_imm (hr.cell (hget j u hj))
  obtain ⟨_, _, A, cap, rfl, _, h4⟩ := hr
  obtain ⟨a, rfl, _⟩ := h4 _ u (hget j u hj)
  simp only [slPtr] at h1 ⊢
  rw [Addr.add_add]
  exact h1
/-- Bytes are copied into a row of one's own, out of another block of one's own. -/
theorem Grow.copyAt {e dT sT elem : TypeId} {x y : Operand} {n size i m ms dc sc : Nat} {v : Value} {xs cs : List Value} {L1 L2 Lv : Own} {sa : Addr} (hu : P.underlying dT = some (.slice elem)) (hs : TI P elem (.int .u8 0) 1 1) (hg : Grow e size v n xs Lv) (hx : ev l x = some (.slice (some (slPtr v i)) m dc)) (hy : ev l y = some (.slice (some sa) ms sc))
    (hst : St w0 w I (L1 ++ (Lv ++ L2))) (hcs : cs.length = m) (hms : m ≤ ms) (hsrc : ∀ j u, cs[j]? = some u → w.cell? (sa.add j) = some u) (hpos : 0 < n) (hi : i + m ≤ n * size) (hone : ∀ u ∈ cs, u.oneCell' = true) :
    ∃ u w', Runs P (.call ⟨.builtin .copy, #[x, y], #[dT, sT]⟩) ty l w (.value u) w' ∧ ∃ Lv', St w0 w' I (L1 ++ (Lv' ++ L2)) ∧ Grow e size v n (xs.take i ++ cs ++ xs.drop (i + cs.length)) Lv' := by
  subst hcs
  obtain ⟨h1, h0, ⟨rfl, rfl, rfl⟩ | ⟨g, cap, cur, rfl, rfl, h3, h4, h5, h6⟩⟩ := hg
  · omega
  · rw [slPtr_lit] at hx
    have hm : n * size ≤ cap * size := Nat.mul_le_mul_right _ h3
    have hb : w.heap[g]? = some (.cells cur e) := hst.own (g, .cells cur e) (List.mem_of_getElem? (get_mid L1 L2 _))
    obtain ⟨inf, hi1, hi2, hi3, hi4⟩ := hs.get
    have hrun := run_copy_row (P := P) w dT sT ty elem g i cs.length dc sa ms sc cur e cs hu (by rw [hi1]; simp [hi3]) hb (Nat.min_eq_right hms).symm hsrc (by omega) hone
    have hput := hst.put (k := L1.length) (b := g) (o := .cells cur e) (o' := .cells (cur.toList.take i ++ cs ++ cur.toList.drop (i + cs.length)).toArray e) (w' := w.setRow g (cur.toList.take i ++ cs ++ cur.toList.drop (i + cs.length)).toArray) (get_mid L1 L2 _) rfl rfl rfl
      (by simp [World.setRow, Array.getElem?_modify, hb]) (fun j hj _ => setRow_other w g j _ hj)
    rw [set_mid] at hput
    refine ⟨_, _, Runs.bi (args := [x, y]) (vs := [.slice (some ⟨g, i, none⟩) cs.length dc, .slice (some sa) ms sc]) (by simp [evs, hx, hy]) (fun consts => by simp only [builtin, Sem.run_bind, hrun]; rfl), _, hput, ?_, ?_, .inr ⟨g, cap, _, rfl, rfl, h3, h4, ?_, ?_⟩⟩
    · simp only [List.length_append, List.length_take, List.length_drop, h1]; omega
    · intro u hu
      rcases List.mem_append.1 hu with hu | hu
      · rcases List.mem_append.1 hu with hu | hu
        · exact h0 u (List.mem_of_mem_take hu)
        · exact hone u hu
      · exact h0 u (List.mem_of_mem_drop hu)
    · simp only [List.size_toArray, List.length_append, List.length_take, List.length_drop, Array.length_toList]; omega
    · exact take_over cur.toList xs cs (n * size) i h6 hi (by rw [Array.length_toList, h5]; exact hm)
end Go.Proofs.YtlmmpcdjkpibcaaX
