/- The rules for slices: what reads as a list; index, part, length; what is made, appended, copied. Own lemmas, no program in sight. -/
import Derived.Test.YtlmmpcdjkpibcaaX2
import Derived.Laws.MakeOwn
import Derived.Laws.AppendOwn
import Derived.ArgAppend
namespace Go.Proofs.YtlmmpcdjkpibcaaX
set_option linter.unusedVariables false
set_option linter.unusedSimpArgs false
open Go Go.RowKit
variable {w0 w : World} {I : Imm} {L : Own} {P : Program} {l : Env} {ty : TypeId}

/-- The slice v, of n elements of so many cells, reads as these cells, in blocks that nobody writes any more. -/
def RdL (I : Imm) (size : Nat) (v : Value) (n : Nat) (xs : List Value) : Prop :=
  xs.length = n * size ∧ (∀ u ∈ xs, u.oneCell' = true) ∧ ∃ A cap, v = .slice A n cap ∧ n ≤ cap ∧ ∀ j u, xs[j]? = some u → ∃ a, A = some a ∧ I.cell? (a.add j) = some u
theorem RdL.mono {I I' : Imm} (hI : I.le I') {size n : Nat} {v : Value} {xs : List Value} (h : RdL I size v n xs) : RdL I' size v n xs :=
  let ⟨h1, h0, A, cap, h2, h3, h4⟩ := h
  ⟨h1, h0, A, cap, h2, h3, fun j u hj => let ⟨a, h5, h6⟩ := h4 j u hj; ⟨a, h5, hI.cell h6⟩⟩
theorem RdL.nil {I : Imm} (size : Nat) : RdL I size (.slice none 0 0) 0 [] := ⟨by simp, by simp, none, 0, rfl, Nat.le_refl _, fun j u h => by simp at h⟩
/-- One of the walk's own slices: its value, its cells, the blocks that are its own. -/
def Grow (e : TypeId) (size : Nat) (v : Value) (n : Nat) (xs : List Value) (Lv : Own) : Prop :=
  xs.length = n * size ∧ (∀ u ∈ xs, u.oneCell' = true) ∧ ((v = .slice none 0 0 ∧ n = 0 ∧ Lv = []) ∨
    ∃ g cap cur, v = .slice (some ⟨g, 0, none⟩) n cap ∧ Lv = [(g, .cells cur e)] ∧ n ≤ cap ∧ cap ≤ maxLen ∧ cur.size = cap * size ∧ cur.toList.take (n * size) = xs)
theorem Grow.nil (e : TypeId) (size : Nat) : Grow e size (.slice none 0 0) 0 [] [] := ⟨by simp, by simp, .inl ⟨rfl, rfl, rfl⟩⟩
/-- Written no more. -/
theorem Grow.freeze {e : TypeId} {size n : Nat} {v : Value} {xs : List Value} {Lv : Own} (hg : Grow e size v n xs Lv) (h : St w0 w I (Lv ++ L)) :
    ∃ I', I.le I' ∧ St w0 w I' L ∧ RdL I' size v n xs := by
  obtain ⟨h1, h0, ⟨rfl, rfl, rfl⟩ | ⟨g, cap, cur, rfl, rfl, h3, h4, h5, h6⟩⟩ := hg
  · have : xs = [] := List.eq_nil_of_length_eq_zero (by simpa using h1)
    subst this
    exact ⟨I, Imm.le.refl I, h, RdL.nil size⟩
  · obtain ⟨h7, h8⟩ := St.freeze (L := L) (by simpa using h)
    refine ⟨_, h8, h7, h1, h0, _, cap, rfl, h3, fun j u hj => ⟨_, rfl, ?_⟩⟩
    rw [add_lit]
    unfold Imm.cell?
    simp only [Imm.add_at, Option.isSome_none, Bool.false_eq_true, if_false, Nat.zero_add]
    rw [← h6] at hj
    rw [List.getElem?_take] at hj
    split at hj
    · simpa using hj
    · cases hj
theorem Grow.lt {e : TypeId} {size n : Nat} {v : Value} {xs : List Value} {Lv : Own} (hg : Grow e size v n xs Lv) : n ≤ maxLen := by
  obtain ⟨h1, h0, ⟨rfl, rfl, rfl⟩ | ⟨g, cap, cur, rfl, rfl, h3, h4, h5, h6⟩⟩ := hg
  · exact Nat.zero_le _
  · omega
theorem St.block (h : St w0 w I L) {b : Nat} {o : Obj} (hm : (b, o) ∈ L) : w.heap[b]? = some o := h.own _ hm

/-- Behind a law that ends in 'grownBy' with nothing written: one new block. -/
theorem St.grown_none (h : St w0 w I L) {w' : World} (hg : w.grownBy w' none) : St w0 w' I L :=
  ⟨hg.os.trans h.os, hg.tape.trans h.tape, hg.output.trans h.out, fun b o hb => by rw [hg.block b (h.lt hb) (by simp)]; exact h.imm b o hb,
    fun p hp => by rw [hg.block _ (h.lt_own hp) (by simp)]; exact h.own p hp, h.sep, h.nd⟩
theorem St.cons_new (h : St w0 w I L) {w' : World} (hg : w.grownBy w' none) {b : Nat} {o : Obj} (hb : w.heap.size ≤ b) (ho : w'.heap[b]? = some o) : St w0 w' I ((b, o) :: L) := by
  have h' := h.grown_none hg
  refine ⟨h'.os, h'.tape, h'.out, h'.imm, fun p hp => ?_, fun p hp => ?_, ?_⟩
  · rcases List.mem_cons.1 hp with rfl | hp
    · exact ho
    · exact h'.own p hp
  · rcases List.mem_cons.1 hp with rfl | hp
    · cases e : I b with
      | none => rfl
      | some o' => exact absurd (h.lt e) (by omega)
    · exact h'.sep p hp
  · simp only [List.map_cons, List.nodup_cons]
    refine ⟨fun hm => ?_, h.nd⟩
    obtain ⟨p, hp, he⟩ := List.mem_map.1 hm
    have := h.lt_own hp
    omega

/-! ### Index, length, parts -/
theorem runs_lenL {t e : TypeId} {x : Operand} {A : Option Addr} {n c : Nat} (ht : P.underlying t = some (.slice e)) (hx : ev l x = some (.slice A n c)) :
    Runs P (.call ⟨.builtin .len, #[x], #[t]⟩) ty l w (.value (.int .i64 n)) w :=
  Runs.bi (args := [x]) (vs := [.slice A n c]) (by simp [evs, hx]) fun consts => by
    have he : P.elem t = e := by simp [Program.elem, ht]
    have := run_len_slice (P := P) w t ty A n c (by rw [he]; exact ht)
    simp only [builtin, Sem.run_bind, this]; rfl
theorem runs_indexAddr {t e : TypeId} {x y : Operand} {a : Addr} {n c : Nat} {k : IntKind} {i : Int} {z : Value} {size bytes : Nat} (ht : P.underlying t = some (.slice e)) (he : TI P e z size bytes) (hx : ev l x = some (.slice (some a) n c)) (hy : ev l y = some (.int k i))
    (h : 0 ≤ i ∧ i < n) : Runs P (.indexAddr t x y) ty l w (.value (.pointer (some (a.add (i.toNat * size))))) w :=
  .of (fun ρ => Instr.indexAt t (ρ x) (ρ y)) (fun _ _ _ _ _ => rfl) fun ρ hρ => by
    have hel : P.elem t = e := by simp [Program.elem, ht]
    have := run_indexAt_slice (P := P) w t a n c k i (by rw [hel]; exact ht)
    rw [if_pos h, hel, he.run_size] at this
    simp only [hρ x _ hx, hρ y _ hy]
    exact this
/-- A part of a slice. -/
theorem RdL.part {I : Imm} {size n : Nat} {A : Option Addr} {cap : Nat} {xs : List Value} (h : RdL I size (.slice A n cap) n xs) {lo hi : Nat} (h1 : lo ≤ hi) (h2 : hi ≤ n) :
    RdL I size (sliced A lo hi cap size) (hi - lo) ((xs.drop (lo * size)).take ((hi - lo) * size)) := by
  obtain ⟨h3, h0, A', cap', h4, h5, h6⟩ := h
  cases h4
  refine ⟨?_, fun u hu => h0 u (List.mem_of_mem_drop (List.mem_of_mem_take hu)), _, _, rfl, by omega, fun j u hj => ?_⟩
  · rw [List.length_take, List.length_drop, h3, ← Nat.sub_mul]
    exact Nat.min_eq_left (Nat.mul_le_mul_right _ (by omega))
  · rw [List.getElem?_take] at hj
    split at hj
    · rename_i hlt
      rw [List.getElem?_drop] at hj
      obtain ⟨a, rfl, h7⟩ := h6 _ _ hj
      by_cases hc : cap = lo
      · exfalso
        have : (hi - lo) * size = 0 := by rw [show hi - lo = 0 from by omega]; simp
        omega
      · refine ⟨_, by simp only [if_neg hc]; rfl, ?_⟩
        rw [Addr.add_add]; exact h7
    · cases hj
theorem runs_slice {t e : TypeId} {x : Operand} {A : Option Addr} {n c lo hi : Nat} {low high mx : Option Operand} {z : Value} {size bytes : Nat} {m : Nat} (ht : P.underlying t = some (.slice e)) (he : TI P e z size bytes) (hx : ev l x = some (.slice A n c))
    (hb : ∀ ρ, (∀ x v, ev l x = some v → ρ x = v) → (Instr.sliceBounds true n c (low.map ρ) (high.map ρ) (mx.map ρ)).run P w = .ok (lo, hi, m) w) :
    Runs P (.slice t x low high mx) ty l w (.value (sliced A lo hi m size)) w :=
  .of (fun ρ => Instr.sliceAt t (ρ x) (low.map ρ) (high.map ρ) (mx.map ρ)) (fun _ _ _ _ _ => rfl) fun ρ hρ => by
    have hel : P.elem t = e := by simp [Program.elem, ht]
    rw [hρ x _ hx, run_sliceAt_slice _ _ _ _ _ _ (by rw [hel]; exact ht), run_slice_any _ _ _ _ _ (by rw [hel]; exact ht), hb ρ hρ, hel]
    simp only [Result.andThen]
    rw [he.run_size]
theorem sb_ok (w : World) {k : IntKind} {i : Int} {y : Nat} (h0 : 0 ≤ i) (h1 : i ≤ y) (code : BoundsCode) : (Instr.sliceBound (.int k i) y code).run P w = .ok i.toNat w := run_sliceBound _ _ _ _ _ h0 h1
theorem runs_slice_lh {t e : TypeId} {x y y' : Operand} {A : Option Addr} {n c : Nat} {k k' : IntKind} {lo hi : Int} {z : Value} {size bytes : Nat} (ht : P.underlying t = some (.slice e)) (he : TI P e z size bytes) (hx : ev l x = some (.slice A n c))
    (hy : ev l y = some (.int k lo)) (hy' : ev l y' = some (.int k' hi)) (h : 0 ≤ lo ∧ lo ≤ hi ∧ hi ≤ c) : Runs P (.slice t x (some y) (some y') none) ty l w (.value (sliced A lo.toNat hi.toNat c size)) w :=
  runs_slice ht he hx fun ρ hρ => by
    have b1 := sb_ok (P := P) w (k := k') (i := hi) (y := c) (by omega) (by omega)
    have b2 := sb_ok (P := P) w (k := k) (i := lo) (y := hi.toNat) (by omega) (by omega)
    simp only [hρ y _ hy, hρ y' _ hy', b1, b2, Instr.sliceBounds, Sem.run_bind, pure, Sem.run, if_true, if_false, Option.isSome_none, Option.isSome_some, Bool.false_eq_true, Result.andThen, Option.map_some, Option.map_none]
theorem runs_slice_l {t e : TypeId} {x y : Operand} {A : Option Addr} {n c : Nat} {k : IntKind} {lo : Int} {z : Value} {size bytes : Nat} (ht : P.underlying t = some (.slice e)) (he : TI P e z size bytes) (hx : ev l x = some (.slice A n c))
    (hy : ev l y = some (.int k lo)) (h : 0 ≤ lo ∧ lo ≤ n) : Runs P (.slice t x (some y) none none) ty l w (.value (sliced A lo.toNat n c size)) w :=
  runs_slice ht he hx fun ρ hρ => by
    have b2 := sb_ok (P := P) w (k := k) (i := lo) (y := n) (by omega) (by omega)
    simp only [hρ y _ hy, b2, Instr.sliceBounds, Sem.run_bind, pure, Sem.run, if_true, if_false, Option.isSome_none, Option.isSome_some, Bool.false_eq_true, Result.andThen, Option.map_some, Option.map_none]
theorem runs_slice_h {t e : TypeId} {x y' : Operand} {A : Option Addr} {n c : Nat} {k' : IntKind} {hi : Int} {z : Value} {size bytes : Nat} (ht : P.underlying t = some (.slice e)) (he : TI P e z size bytes) (hx : ev l x = some (.slice A n c))
    (hy' : ev l y' = some (.int k' hi)) (h : 0 ≤ hi ∧ hi ≤ c) : Runs P (.slice t x none (some y') none) ty l w (.value (sliced A 0 hi.toNat c size)) w :=
  runs_slice ht he hx fun ρ hρ => by
    have b1 := sb_ok (P := P) w (k := k') (i := hi) (y := c) (by omega) (by omega)
    simp only [hρ y' _ hy', b1, Instr.sliceBounds, Sem.run_bind, pure, Sem.run, if_true, if_false, Option.isSome_none, Option.isSome_some, Bool.false_eq_true, Result.andThen, Option.map_some, Option.map_none]
theorem runs_slice_hm {t e : TypeId} {x y' y'' : Operand} {A : Option Addr} {n c : Nat} {k' k'' : IntKind} {hi mx : Int} {z : Value} {size bytes : Nat} (ht : P.underlying t = some (.slice e)) (he : TI P e z size bytes) (hx : ev l x = some (.slice A n c))
    (hy' : ev l y' = some (.int k' hi)) (hy'' : ev l y'' = some (.int k'' mx)) (h : 0 ≤ hi ∧ hi ≤ mx ∧ mx ≤ c) : Runs P (.slice t x none (some y') (some y'')) ty l w (.value (sliced A 0 hi.toNat mx.toNat size)) w :=
  runs_slice ht he hx fun ρ hρ => by
    have b1 := sb_ok (P := P) w (k := k'') (i := mx) (y := c) (by omega) (by omega)
    have b2 := sb_ok (P := P) w (k := k') (i := hi) (y := mx.toNat) (by omega) (by omega)
    simp only [hρ y' _ hy', hρ y'' _ hy'', b1, b2, Instr.sliceBounds, Sem.run_bind, pure, Sem.run, if_true, if_false, Option.isSome_none, Option.isSome_some, Bool.false_eq_true, Result.andThen, Option.map_some, Option.map_none]
/-- Strings. -/
theorem runs_sliceS {t : TypeId} {x : Operand} {s : ByteArray} {low high : Option Operand} {lo hi m : Nat} (ht : P.underlying t = some .string) (hx : ev l x = some (.string s))
    (hb : ∀ ρ, (∀ x v, ev l x = some v → ρ x = v) → (Instr.sliceBounds false s.size s.size (low.map ρ) (high.map ρ) none).run P w = .ok (lo, hi, m) w) :
    Runs P (.slice t x low high none) ty l w (.value (.string (s.extract lo hi))) w :=
  .of (fun ρ => Instr.sliceAt t (ρ x) (low.map ρ) (high.map ρ) none) (fun _ _ _ _ _ => rfl) fun ρ hρ => by
    have h1 : (Instr.sliceAt t (.string s) (low.map ρ) (high.map ρ) none).run P w = (Instr.slice t (.string s) (low.map ρ) (high.map ρ) none).run P w := by
      unfold Instr.sliceAt
      simp only [Sem.run_bind, run_underlying ht, Result.andThen]
    have h2 : (Instr.slice t (.string s) (low.map ρ) (high.map ρ) none).run P w = .ok (.string (s.extract lo hi)) w := by
      unfold Instr.slice
      simp only [Sem.run_bind, run_underlying ht, Result.andThen, Option.isSome_none, Bool.false_eq_true, if_false, hb ρ hρ]
      rfl
    rw [hρ x _ hx, h1, h2]
theorem runs_sliceS_lh {t : TypeId} {x y y' : Operand} {s : ByteArray} {k k' : IntKind} {lo hi : Int} (ht : P.underlying t = some .string) (hx : ev l x = some (.string s)) (hy : ev l y = some (.int k lo)) (hy' : ev l y' = some (.int k' hi)) (h : 0 ≤ lo ∧ lo ≤ hi ∧ hi ≤ s.size) :
    Runs P (.slice t x (some y) (some y') none) ty l w (.value (.string (s.extract lo.toNat hi.toNat))) w :=
  runs_sliceS (m := s.size) ht hx fun ρ hρ => by
    have b1 := sb_ok (P := P) w (k := k') (i := hi) (y := s.size) (by omega) (by omega)
    have b2 := sb_ok (P := P) w (k := k) (i := lo) (y := hi.toNat) (by omega) (by omega)
    simp only [hρ y _ hy, hρ y' _ hy', b1, b2, Instr.sliceBounds, Sem.run_bind, pure, Sem.run, if_true, if_false, Option.isSome_none, Option.isSome_some, Bool.false_eq_true, Result.andThen, Option.map_some, Option.map_none]
theorem runs_sliceS_l {t : TypeId} {x y : Operand} {s : ByteArray} {k : IntKind} {lo : Int} (ht : P.underlying t = some .string) (hx : ev l x = some (.string s)) (hy : ev l y = some (.int k lo)) (h : 0 ≤ lo ∧ lo ≤ s.size) :
    Runs P (.slice t x (some y) none none) ty l w (.value (.string (s.extract lo.toNat s.size))) w :=
  runs_sliceS (m := s.size) ht hx fun ρ hρ => by
    have b2 := sb_ok (P := P) w (k := k) (i := lo) (y := s.size) (by omega) (by omega)
    simp only [hρ y _ hy, b2, Instr.sliceBounds, Sem.run_bind, pure, Sem.run, if_true, if_false, Option.isSome_none, Option.isSome_some, Bool.false_eq_true, Result.andThen, Option.map_some, Option.map_none]
theorem runs_sliceS_h {t : TypeId} {x y' : Operand} {s : ByteArray} {k' : IntKind} {hi : Int} (ht : P.underlying t = some .string) (hx : ev l x = some (.string s)) (hy' : ev l y' = some (.int k' hi)) (h : 0 ≤ hi ∧ hi ≤ s.size) :
    Runs P (.slice t x none (some y') none) ty l w (.value (.string (s.extract 0 hi.toNat))) w :=
  runs_sliceS (m := s.size) ht hx fun ρ hρ => by
    have b1 := sb_ok (P := P) w (k := k') (i := hi) (y := s.size) (by omega) (by omega)
    simp only [hρ y' _ hy', b1, Instr.sliceBounds, Sem.run_bind, pure, Sem.run, if_true, if_false, Option.isSome_none, Option.isSome_some, Bool.false_eq_true, Result.andThen, Option.map_some, Option.map_none]

/-! ### What is made -/
theorem parts_eq {ρ : Operand → Value} (hρ : ∀ x v, ev l x = some v → ρ x = v) : ∀ {parts : List (Nat × Operand)} {vs : List (Nat × Value)}, evs l (parts.map (·.2)) = some (vs.map (·.2)) → parts.map (·.1) = vs.map (·.1) →
    (parts.toArray.map fun (i, x) => (i, ρ x)) = vs.toArray := fun {parts vs} hv hi => by
  rw [List.map_toArray]
  congr 1
  have h1 := evs_on hρ hv
  clear hv
  induction parts generalizing vs with
  | nil => cases vs with
    | nil => rfl
    | cons _ _ => simp at hi
  | cons p r ih => cases vs with
    | nil => simp at hi
    | cons q s =>
      simp only [List.map_cons, List.cons.injEq] at hi h1
      simp only [List.map_cons, List.cons.injEq]
      exact ⟨Prod.ext hi.1 h1.1, ih hi.2 h1.2⟩
theorem runs_build {t : TypeId} {parts : List (Nat × Operand)} {vs : List (Nat × Value)} {cells : List Value} (hv : evs l (parts.map (·.2)) = some (vs.map (·.2))) (hi : parts.map (·.1) = vs.map (·.1)) (hb : P.built t vs = some cells.toArray) :
    Runs P (.build t parts.toArray) ty l w (.value (.agg cells.toArray)) w :=
  .of (fun ρ => Instr.build t (parts.toArray.map fun (i, x) => (i, ρ x))) (fun _ _ _ _ _ => rfl) fun ρ hρ => by
    rw [parts_eq hρ hv hi]
    exact run_build w t vs.toArray cells.toArray (by simpa using hb)
theorem loadCells_zero (w : World) (a : Addr) : (loadCells a 0).run P w = .ok #[] w := rfl
theorem run_append_m0 {t e : TypeId} {z : Value} {size bytes : Nat} {A B : Option Addr} {n cap c : Nat} (ht : P.underlying t = some (.slice e)) (he : TI P e z size bytes) (hn : n ≤ cap) :
    (Builtin.append_ #[t, t] ty #[.slice A n cap, .slice B 0 c]).run P w = .ok (.slice A n cap) w := by
  have hf : (Builtin.firstCells size 0 (.slice B 0 c)).run P w = .ok #[] w := by
    cases B with
    | none => rfl
    | some a => simp only [Builtin.firstCells, Nat.zero_mul]; rfl
  unfold Builtin.append_
  simp only [List.getElem?_toArray, List.getElem?_cons_zero, List.getElem?_cons_succ, Sem.run_bind, run_underlying ht, Result.andThen, he.run_size]
  have hm : (match (TypeDesc.slice e : TypeDesc) with | .int _ => true | _ => false) = false := rfl
  simp only [pure, Sem.run, Builtin.lenOf, Bool.false_eq_true, if_false, Nat.add_zero, hn, if_true, Bool.not_false, Sem.run_bind, hf, Result.andThen]
  cases A <;> rfl
/-- An append to one of the walk's own slices. -/
theorem run_appendG {t e : TypeId} {z : Value} {size bytes : Nat} (ht : P.underlying t = some (.slice e)) (he : TI P e z size bytes) (hz : z.cells.size = size) (h0 : 0 < size) {v : Value} {n : Nat} {xs : List Value} {Lv : Own} (hst : St w0 w I (Lv ++ L)) (hg : Grow e size v n xs Lv)
    {B : Option Addr} {m c : Nat} {news : List Value} (hlen : news.length = m * size) (hsrc : ∀ j u, news[j]? = some u → ∃ a, B = some a ∧ w.cell? (a.add j) = some u) (hone : ∀ u ∈ news, u.oneCell' = true)
    (hb : (n + m) * bytes ≤ 140737488355328) (hmax : n + m ≤ maxLen) :
    ∃ v' w' Lv', (Builtin.append_ #[t, t] ty #[v, .slice B m c]).run P w = .ok v' w' ∧ St w0 w' I (Lv' ++ L) ∧ Grow e size v' (n + m) (xs ++ news) Lv' := by
  obtain ⟨i, hi1, hi2, hi3, hi4⟩ := he.get
  by_cases hm : m = 0
  · subst hm
    have hnews : news = [] := List.eq_nil_of_length_eq_zero (by simpa using hlen)
    subst hnews
    refine ⟨v, w, Lv, ?_, hst, by simpa using hg⟩
    obtain ⟨_, _, ⟨rfl, rfl, rfl⟩ | ⟨g, cap, cur, rfl, rfl, h3, _⟩⟩ := hg
    · exact run_append_m0 ht he (Nat.le_refl _)
    · exact run_append_m0 ht he h3
  · have hpos : 0 < news.length := by rw [hlen]; exact Nat.mul_pos (by omega) h0
    obtain ⟨a, rfl, _⟩ := hsrc 0 news[0] (by simp [hpos])
    have hsrc' : ∀ j u, news[j]? = some u → w.cell? (a.add j) = some u := fun j u hj => by
      obtain ⟨a', h1, h2⟩ := hsrc j u hj
      cases h1; exact h2
    obtain ⟨hxl, hxo, ⟨rfl, rfl, rfl⟩ | ⟨g, cap, cur, rfl, rfl, h3, h4, h5, h6⟩⟩ := hg
    · have hx : xs = [] := List.eq_nil_of_length_eq_zero (by simpa using hxl)
      subst hx
      obtain ⟨v', w', h7, h8, h9, h10⟩ := run_append_own (P := P) w w.heap.size t ty e i z size bytes ht hi1 hi2 hi3 hi4 hz h0 (.slice none 0 0) 0 [] ⟨by simp, .inl ⟨rfl, rfl⟩⟩ a m c news hlen hsrc' hone (by simpa using hmax) (by simpa using hb) (Nat.le_refl _)
      obtain ⟨h11, ⟨e1, e2⟩ | ⟨g, cap, cur, rfl, hge, hheap, h12, h13, h14, h15⟩⟩ := h8
      · omega
      · exact ⟨_, w', [(g, .cells cur e)], h7, hst.cons_new h9 hge hheap, h11, by simpa using hone, .inr ⟨g, cap, cur, rfl, rfl, h12, h13, h14, h15⟩⟩
    · have hmem : (g, Obj.cells cur e) ∈ ([(g, .cells cur e)] ++ L : Own) := by simp
      have hheap := hst.own _ hmem
      have hown : w.ownsRow 0 e size (.slice (some ⟨g, 0, none⟩) n cap) n xs := ⟨hxl, .inr ⟨g, cap, cur, rfl, Nat.zero_le _, hheap, h3, h4, h5, h6⟩⟩
      by_cases hfit : n + m ≤ cap
      · obtain ⟨w', h7, h8, h9⟩ := run_append_fits (P := P) w 0 t ty e i size ht hi1 hi3 g n cap xs hown a m c news hlen hsrc' hone hfit
        obtain ⟨h11, ⟨e1, e2⟩ | ⟨g', cap', cur', e1, _, hheap', h12, h13, h14, h15⟩⟩ := h8
        · cases e1
        · cases e1
          refine ⟨_, w', [(g, .cells cur' e)], h7, ?_, h11, fun u hu => (List.mem_append.1 hu).elim (hxo u) (hone u), .inr ⟨g, cap, cur', rfl, rfl, h12, h13, h14, h15⟩⟩
          have := hst.put (k := 0) (b := g) (o := .cells cur e) (o' := .cells cur' e) (w' := w') rfl h9.os h9.tape h9.output hheap' (fun j hj hlt => h9.block j hlt (fun h => hj (Option.some.inj h)))
          simpa using this
      · have hold : ∀ j u, xs[j]? = some u → w.cell? ((⟨g, 0, none⟩ : Addr).add j) = some u := fun j u hj => by
          rw [add_lit, Nat.zero_add]
          refine hst.cell_own (k := 0) rfl ?_
          rw [← h6, List.getElem?_take] at hj
          split at hj
          · simpa using hj
          · cases hj
        obtain ⟨v', w', h7, h8, h9⟩ := run_append_arg_grows (P := P) w t ty e i z size bytes ht hi1 hi2 hi3 hi4 hz h0 ⟨g, 0, none⟩ n cap xs hxl hold a m c news hlen hsrc' (by omega) hmax hb
        obtain ⟨h11, ⟨e1, e2⟩ | ⟨g', cap', cur', rfl, hge, hheap', h12, h13, h14, h15⟩⟩ := h8
        · omega
        · exact ⟨_, w', [(g', .cells cur' e)], h7, (hst.sub (by simp)).cons_new h9 hge hheap', h11, fun u hu => (List.mem_append.1 hu).elim (hxo u) (hone u), .inr ⟨g', cap', cur', rfl, rfl, h12, h13, h14, h15⟩⟩
theorem runs_appendG {t e : TypeId} {z : Value} {size bytes : Nat} (ht : P.underlying t = some (.slice e)) (he : TI P e z size bytes) (hz : z.cells.size = size) (h0 : 0 < size) {x y : Operand} {v : Value} {n : Nat} {xs : List Value} {Lv : Own} (hx : ev l x = some v) {B : Option Addr} {m c : Nat} (hy : ev l y = some (.slice B m c))
    (hst : St w0 w I (Lv ++ L)) (hg : Grow e size v n xs Lv) {news : List Value} (hlen : news.length = m * size) (hsrc : ∀ j u, news[j]? = some u → ∃ a, B = some a ∧ w.cell? (a.add j) = some u) (hone : ∀ u ∈ news, u.oneCell' = true)
    (hb : (n + m) * bytes ≤ 140737488355328) (hmax : n + m ≤ maxLen) :
    ∃ v' w', Runs P (.call ⟨.builtin .append, #[x, y], #[t, t]⟩) ty l w (.value v') w' ∧ ∃ Lv', St w0 w' I (Lv' ++ L) ∧ Grow e size v' (n + m) (xs ++ news) Lv' := by
  obtain ⟨v', w', Lv', h1, h2, h3⟩ := run_appendG (P := P) (ty := ty) ht he hz h0 hst hg hlen hsrc hone hb hmax (c := c)
  exact ⟨v', w', Runs.bi (args := [x, y]) (vs := [v, .slice B m c]) (by simp [evs, hx, hy]) fun consts => by simp only [builtin, Sem.run_bind, h1]; rfl, Lv', h2, h3⟩
/-- What is appended reads as a list. -/
theorem RdL.src {size n : Nat} {v : Value} {xs : List Value} (h : RdL I size v n xs) (hst : St w0 w I L) : ∃ B c, v = .slice B n c ∧ (∀ j u, xs[j]? = some u → ∃ a, B = some a ∧ w.cell? (a.add j) = some u) :=
  let ⟨_, _, A, cap, h2, _, h4⟩ := h
  ⟨A, cap, h2, fun j u hj => let ⟨a, h5, h6⟩ := h4 j u hj; ⟨a, h5, hst.cell_imm h6⟩⟩
theorem runs_appendR {t e : TypeId} {z : Value} {size bytes : Nat} (ht : P.underlying t = some (.slice e)) (he : TI P e z size bytes) (hz : z.cells.size = size) (h0 : 0 < size) {x y : Operand} {v u : Value} {n m : Nat} {xs news : List Value} {Lv : Own} (hx : ev l x = some v) (hy : ev l y = some u)
    (hst : St w0 w I (Lv ++ L)) (hg : Grow e size v n xs Lv) (hr : RdL I size u m news) (hb : (n + m) * bytes ≤ 140737488355328) (hmax : n + m ≤ maxLen) :
    ∃ v' w', Runs P (.call ⟨.builtin .append, #[x, y], #[t, t]⟩) ty l w (.value v') w' ∧ ∃ Lv', St w0 w' I (Lv' ++ L) ∧ Grow e size v' (n + m) (xs ++ news) Lv' := by
  obtain ⟨B, c, rfl, h1⟩ := hr.src hst
  exact runs_appendG ht he hz h0 hx hy hst hg hr.1 h1 hr.2.1 hb hmax
/-- A slice written out: a block of its own, at once one that nobody writes any more. -/
theorem run_buildSlice {t e : TypeId} {z : Value} {size bytes n : Nat} {vs : List (Nat × Value)} {cells : List Value} (ht : P.underlying t = some (.slice e)) (he : TI P e z size bytes) (hn : n * size ≤ 16777216)
    (hf : Instr.fill (fun i => some (i * size, size)) ((Array.range (n * size)).map ((if n * size = 0 then #[] else z.cells)[· % (if n * size = 0 then #[] else z.cells).size]!)) vs = some cells.toArray) :
    (Instr.buildSlice t n vs.toArray).run P w = .ok (.slice (some ⟨w.heap.size, 0, none⟩) n n) (w.alloc (.cells cells.toArray e)) := by
  unfold Instr.buildSlice
  simp only [Sem.run_bind, run_underlying ht, Result.andThen, he.run_size]
  rw [if_neg (by omega)]
  by_cases h0 : n * size = 0
  · simp only [h0, if_true] at hf ⊢
    simp only [pure, Sem.run_bind, Sem.run, Result.andThen]
    rw [hf]
    rfl
  · simp only [if_neg h0] at hf ⊢
    simp only [pure, Sem.run_bind, he.run_zero, Sem.run, Result.andThen]
    rw [hf]
    rfl
theorem runs_buildSlice {t e : TypeId} {z : Value} {size bytes n : Nat} {parts : List (Nat × Operand)} {vs : List (Nat × Value)} {cells : List Value} (ht : P.underlying t = some (.slice e)) (he : TI P e z size bytes) (hn : n * size ≤ 16777216)
    (hv : evs l (parts.map (·.2)) = some (vs.map (·.2))) (hi : parts.map (·.1) = vs.map (·.1))
    (hf : Instr.fill (fun i => some (i * size, size)) ((Array.range (n * size)).map ((if n * size = 0 then #[] else z.cells)[· % (if n * size = 0 then #[] else z.cells).size]!)) vs = some cells.toArray) (hst : St w0 w I L) (hlen : cells.length = n * size) (hone : ∀ u ∈ cells, u.oneCell' = true) (hmax : n ≤ maxLen) :
    ∃ v w', Runs P (.buildSlice t n parts.toArray) ty l w (.value v) w' ∧ ∃ Lv, St w0 w' I (Lv ++ L) ∧ Grow e size v n cells Lv := by
  have hgrow : Grow e size (.slice (some ⟨w.heap.size, 0, none⟩) n n) n cells [(w.heap.size, .cells cells.toArray e)] :=
    ⟨hlen, hone, .inr ⟨w.heap.size, n, cells.toArray, rfl, rfl, Nat.le_refl _, hmax, by simpa using hlen, by rw [← hlen]; simp⟩⟩
  have hst' : St w0 (w.alloc (.cells cells.toArray e)) I ([(w.heap.size, .cells cells.toArray e)] ++ L) := hst.heap_new _
  refine ⟨.slice (some ⟨w.heap.size, 0, none⟩) n n, w.alloc (.cells cells.toArray e), Runs.of (fun ρ => Instr.buildSlice t n (parts.toArray.map fun (i, x) => (i, ρ x))) (fun ρ dst pos after guard => by simp only [execOp]) ?_, _, hst', hgrow⟩
  intro ρ hρ
  rw [parts_eq hρ hv hi]
  exact run_buildSlice ht he hn hf
end Go.Proofs.YtlmmpcdjkpibcaaX
