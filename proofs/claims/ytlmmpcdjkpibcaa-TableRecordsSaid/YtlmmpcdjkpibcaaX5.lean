/- Slices by what they read as: bytes, numbers; the rules over them. Own lemmas, no program in sight. -/
import Derived.Test.YtlmmpcdjkpibcaaX4
namespace Go.Proofs.YtlmmpcdjkpibcaaX
set_option linter.unusedVariables false
set_option linter.unusedSimpArgs false
open Go Go.RowKit
variable {w0 w : World} {I : Imm} {L : Own} {P : Program} {l : Env} {ty : TypeId}

/-- Where the k-th cell of a slice is. -/
def slPtr (v : Value) (k : Nat) : Addr := match v with
  | .slice (some a) _ _ => a.add k
  | _ => ⟨0, 0, none⟩
def partV (v : Value) (lo hi size : Nat) : Value := match v with
  | .slice A _ c => sliced A lo hi c size
  | v => v
def capV (v : Value) : Nat := match v with
  | .slice _ _ c => c
  | _ => 0
theorem RdL.cell {size n : Nat} {v : Value} {xs : List Value} (h : RdL I size v n xs) {k : Nat} {u : Value} (hk : xs[k]? = some u) : I.cell? (slPtr v k) = some u := by
  obtain ⟨_, _, A, cap, rfl, _, h4⟩ := h
  obtain ⟨a, rfl, h5⟩ := h4 k u hk
  exact h5
theorem RdL.indexAddr {t e : TypeId} {x y : Operand} {v : Value} {n : Nat} {xs : List Value} {k : IntKind} {i : Int} {z : Value} {size bytes : Nat} (ht : P.underlying t = some (.slice e)) (he : TI P e z size bytes) (h0 : 0 < size) (hx : ev l x = some v) (hy : ev l y = some (.int k i))
    (hr : RdL I size v n xs) (h : 0 ≤ i ∧ i < n) : Runs P (.indexAddr t x y) ty l w (.value (.pointer (some (slPtr v (i.toNat * size))))) w := by
  obtain ⟨h1, _, A, cap, rfl, _, h4⟩ := hr
  have hlt : i.toNat * size < xs.length := by
    rw [h1]; exact Nat.mul_lt_mul_of_pos_right (by omega) h0
  obtain ⟨a, rfl, _⟩ := h4 (i.toNat * size) xs[i.toNat * size] (by simp [hlt])
  exact runs_indexAddr ht he hx hy h
theorem RdL.len {t e : TypeId} {x : Operand} {v : Value} {size n : Nat} {xs : List Value} (ht : P.underlying t = some (.slice e)) (hx : ev l x = some v) (hr : RdL I size v n xs) : Runs P (.call ⟨.builtin .len, #[x], #[t]⟩) ty l w (.value (.int .i64 n)) w := by
  obtain ⟨_, _, A, cap, rfl, _, _⟩ := hr
  exact runs_lenL ht hx
theorem RdL.partV {size n : Nat} {v : Value} {xs : List Value} (h : RdL I size v n xs) {lo hi : Nat} (h1 : lo ≤ hi) (h2 : hi ≤ n) : RdL I size (partV v lo hi size) (hi - lo) ((xs.drop (lo * size)).take ((hi - lo) * size)) := by
  obtain ⟨h3, h0, A, cap, rfl, h5, h6⟩ := h
  exact RdL.part ⟨h3, h0, A, cap, rfl, h5, h6⟩ h1 h2
theorem RdL.slice_lh {t e : TypeId} {x y y' : Operand} {v : Value} {n : Nat} {xs : List Value} {k k' : IntKind} {lo hi : Int} {z : Value} {size bytes : Nat} (ht : P.underlying t = some (.slice e)) (he : TI P e z size bytes) (hx : ev l x = some v)
    (hy : ev l y = some (.int k lo)) (hy' : ev l y' = some (.int k' hi)) (hr : RdL I size v n xs) (h : 0 ≤ lo ∧ lo ≤ hi ∧ hi ≤ n) : Runs P (.slice t x (some y) (some y') none) ty l w (.value (Go.Proofs.YtlmmpcdjkpibcaaX.partV v lo.toNat hi.toNat size)) w := by
  obtain ⟨_, _, A, cap, rfl, h5, _⟩ := hr
  exact runs_slice_lh ht he hx hy hy' (by omega)
theorem RdL.slice_l {t e : TypeId} {x y : Operand} {v : Value} {n : Nat} {xs : List Value} {k : IntKind} {lo : Int} {z : Value} {size bytes : Nat} (ht : P.underlying t = some (.slice e)) (he : TI P e z size bytes) (hx : ev l x = some v)
    (hy : ev l y = some (.int k lo)) (hr : RdL I size v n xs) (h : 0 ≤ lo ∧ lo ≤ n) : Runs P (.slice t x (some y) none none) ty l w (.value (Go.Proofs.YtlmmpcdjkpibcaaX.partV v lo.toNat n size)) w := by
  obtain ⟨_, _, A, cap, rfl, h5, _⟩ := hr
  exact runs_slice_l ht he hx hy h
theorem RdL.slice_h {t e : TypeId} {x y' : Operand} {v : Value} {n : Nat} {xs : List Value} {k' : IntKind} {hi : Int} {z : Value} {size bytes : Nat} (ht : P.underlying t = some (.slice e)) (he : TI P e z size bytes) (hx : ev l x = some v)
    (hy' : ev l y' = some (.int k' hi)) (hr : RdL I size v n xs) (h : 0 ≤ hi ∧ hi ≤ n) : Runs P (.slice t x none (some y') none) ty l w (.value (Go.Proofs.YtlmmpcdjkpibcaaX.partV v 0 hi.toNat size)) w := by
  obtain ⟨_, _, A, cap, rfl, h5, _⟩ := hr
  exact runs_slice_h ht he hx hy' (by omega)
theorem runs_eq_nilslice {t t' e : TypeId} {x : Operand} {A : Option Addr} {n c : Nat} (ht : P.underlying t = some (.slice e)) (hx : ev l x = some (.slice A n c)) :
    Runs P (.binOp .eql t x (.const (.slice none 0 0)) t') ty l w (.value (.bool A.isNone)) w :=
  .of (fun ρ => do eqGuard .eql t x (.const (.slice none 0 0)) (ρ x) (ρ (.const (.slice none 0 0))); binOp .eql t (ρ x) (ρ (.const (.slice none 0 0)))) (fun _ _ _ _ _ => rfl) fun ρ hρ => by
    have h2 : ρ (.const (.slice none 0 0)) = .slice none 0 0 := hρ _ _ rfl
    have hg : (eqGuard .eql t x (.const (.slice none 0 0)) (.slice A n c) (.slice none 0 0)).run P w = .ok () w := rfl
    have he : (Op.equal t (.slice A n c) (.slice none 0 0)).run P w = .ok A.isNone w := by
      unfold Op.equal Op.maxDepth
      unfold Op.equalIn
      cases A <;> simp only [Sem.run_bind, run_underlying ht, Result.andThen] <;> rfl
    simp only [hρ x _ hx, h2, Sem.run_bind, hg, Result.andThen]
    unfold binOp
    simp only [Sem.run_bind, he, Result.andThen]
    rfl
/-! ### Bytes and numbers -/
def b8 (c : UInt8) : Value := .int .u8 c.toNat
def i64 (n : Int) : Value := .int .i64 n
abbrev RdB (I : Imm) (v : Value) (bs : List UInt8) : Prop := RdL I 1 v bs.length (bs.map b8)
abbrev RdI (I : Imm) (v : Value) (xs : List Int) : Prop := RdL I 1 v xs.length (xs.map i64)
def bat (bs : List UInt8) (i : Int) : Int := ((bs.getD i.toNat 0).toNat : Int)
def iat (xs : List Int) (i : Int) : Int := xs.getD i.toNat 0
theorem RdB.at {v : Value} {bs : List UInt8} {i : Int} (h : RdB I v bs) (h0 : 0 ≤ i) (h1 : i < bs.length) : I.cell? (slPtr v (i.toNat * 1)) = some (.int .u8 (bat bs i)) := by
  refine RdL.cell h ?_
  have : i.toNat < bs.length := by omega
  simp [bat, b8, this]
theorem RdI.at {v : Value} {xs : List Int} {i : Int} (h : RdI I v xs) (h0 : 0 ≤ i) (h1 : i < xs.length) : I.cell? (slPtr v (i.toNat * 1)) = some (.int .i64 (iat xs i)) := by
  refine RdL.cell h ?_
  have : i.toNat < xs.length := by omega
  simp [iat, i64, this]
theorem bat_lt (bs : List UInt8) (i : Int) : 0 ≤ bat bs i ∧ bat bs i ≤ 255 := by
  unfold bat
  have := (bs.getD i.toNat 0).toNat_lt
  omega
theorem RdB.part {v : Value} {bs : List UInt8} (h : RdB I v bs) {lo hi : Nat} (h1 : lo ≤ hi) (h2 : hi ≤ bs.length) : RdB I (partV v lo hi 1) ((bs.drop lo).take (hi - lo)) := by
  have := RdL.partV h h1 h2
  simp only [Nat.mul_one] at this
  unfold RdB
  rw [List.map_take, List.map_drop]
  have e : ((bs.drop lo).take (hi - lo)).length = hi - lo := by rw [List.length_take, List.length_drop]; omega
  rw [e]
  exact this
theorem b8_one (bs : List UInt8) : ∀ u ∈ bs.map b8, u.oneCell' = true := fun u hu => by
  obtain ⟨c, _, rfl⟩ := List.mem_map.1 hu; rfl
theorem i64_one (xs : List Int) : ∀ u ∈ xs.map i64, u.oneCell' = true := fun u hu => by
  obtain ⟨c, _, rfl⟩ := List.mem_map.1 hu; rfl
/-- The walk's own bytes. -/
abbrev GrowB (e : TypeId) (v : Value) (bs : List UInt8) (Lv : Own) : Prop := Grow e 1 v bs.length (bs.map b8) Lv
theorem GrowB.freeze {e : TypeId} {v : Value} {bs : List UInt8} {Lv : Own} (hg : GrowB e v bs Lv) (h : St w0 w I (Lv ++ L)) : ∃ I', I.le I' ∧ St w0 w I' L ∧ RdB I' v bs := Grow.freeze hg h
theorem GrowB.nil (e : TypeId) : GrowB e (.slice none 0 0) [] [] := Grow.nil e 1
theorem runs_appendB {t e : TypeId} (ht : P.underlying t = some (.slice e)) (he : TI P e (.int .u8 0) 1 1) {x y : Operand} {v u : Value} {bs news : List UInt8} {Lv : Own} (hx : ev l x = some v) (hy : ev l y = some u)
    (hst : St w0 w I (Lv ++ L)) (hg : GrowB e v bs Lv) (hr : RdB I u news) (hb : bs.length + news.length ≤ 140737488355328) :
    ∃ v' w', Runs P (.call ⟨.builtin .append, #[x, y], #[t, t]⟩) ty l w (.value v') w' ∧ ∃ Lv', St w0 w' I (Lv' ++ L) ∧ GrowB e v' (bs ++ news) Lv' := by
  obtain ⟨v', w', h1, Lv', h2, h3⟩ := runs_appendR (ty := ty) ht he rfl (by decide) hx hy hst hg hr (by omega) (by unfold maxLen; omega)
  exact ⟨v', w', h1, Lv', h2, by rw [GrowB, List.length_append, List.map_append]; exact h3⟩
theorem runs_fieldAddr0 {x : Operand} {s f b off : Nat} {fields : Array Field} {fd : Field} {z : Value} {size bytes : Nat} (h : ev l x = some (.pointer (some ⟨b, off, none⟩))) (hs : P.underlying s = some (.struct fields)) (hf : fields[f]? = some fd)
    (ht : TI P fd.type z size bytes) (hz : size ≠ 0) : Runs P (.fieldAddr s x f) ty l w (.value (.pointer (some ⟨b, off + fd.offset, none⟩))) w := by
  have := runs_fieldAddr (w := w) (ty := ty) h hs hf ht hz
  rwa [add_lit] at this
/-- The same, the world's new state alone told. -/
theorem runs_store1' {x y : Operand} {S : TypeId} {z : Value} {bytes : Nat} {k b off : Nat} {cs : Array Value} {T : TypeId} {fz : Nat × Nat} {v : Value} (ht : TI P S z 1 bytes) (hx : ev l x = some (.pointer (some ⟨b, off, none⟩))) (hy : ev l y = some v) (hst : St w0 w I L)
    (hL : L[k]? = some (b, .cells cs T fz)) (hoff : off < cs.size) (hfz : NoFz cs.size fz) (hv : v.oneCell' = true) :
    ∃ w', Runs P (.store S x y) ty l w .skip w' ∧ St w0 w' I (L.set k (b, .cells (cs.setIfInBounds off v) T fz)) := runs_store1 ht hx hy hst hL hoff hfz hv
theorem runs_storeA' {x y : Operand} {S : TypeId} {z : Value} {bytes : Nat} {k b off : Nat} {cs : Array Value} {T : TypeId} {fz : Nat × Nat} {vs : List Value} (ht : TI P S z vs.length bytes) (hx : ev l x = some (.pointer (some ⟨b, off, none⟩))) (hy : ev l y = some (.agg vs.toArray)) (hst : St w0 w I L)
    (hL : L[k]? = some (b, .cells cs T fz)) (hoff : off + vs.length ≤ cs.size) (hfz : NoFz cs.size fz) (hv : ∀ v ∈ vs, v.oneCell' = true) :
    ∃ w', Runs P (.store S x y) ty l w .skip w' ∧ St w0 w' I (L.set k (b, .cells (cs.toList.take off ++ vs ++ cs.toList.drop (off + vs.length)).toArray T fz)) := runs_storeA ht hx hy hst hL hoff hfz hv
end Go.Proofs.YtlmmpcdjkpibcaaX
