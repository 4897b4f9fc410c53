/- The walk's own slices lent, cut, written; rows of rows. Own lemmas, no program in sight. -/
import Derived.Test.YtlmmpcdjkpibcaaX9
namespace Go.Proofs.YtlmmpcdjkpibcaaX
set_option linter.unusedVariables false
set_option linter.unusedSimpArgs false
open Go Go.RowKit
variable {w0 w : World} {I : Imm} {L : Own} {P : Program} {l : Env} {ty : TypeId} {N : Nat}

def Imm.del (I : Imm) (b : Nat) : Imm := fun k => if k = b then none else I k
theorem Imm.del_le (I : Imm) (b : Nat) : (I.del b).le I := fun k o h => by
  unfold Imm.del at h
  split at h
  · cases h
  · exact h
/-- A block that was set aside is one's own again. -/
theorem St.thaw {b : Nat} {o : Obj} (h : St w0 w I L) (hb : I b = some o) : St w0 w (I.del b) ((b, o) :: L) := by
  have hne : ∀ p ∈ L, p.1 ≠ b := fun p hp e => by
    have := h.sep p hp
    rw [e, hb] at this
    cases this
  refine ⟨h.os, h.tape, h.out, fun k o' hk => h.imm k o' (Imm.del_le I b k o' hk), fun p hp => ?_, fun p hp => ?_, ?_⟩
  · rcases List.mem_cons.1 hp with rfl | hp
    · exact h.imm _ _ hb
    · exact h.own p hp
  · rcases List.mem_cons.1 hp with rfl | hp
    · simp [Imm.del]
    · unfold Imm.del
      rw [if_neg (hne p hp)]
      exact h.sep p hp
  · simp only [List.map_cons, List.nodup_cons]
    refine ⟨fun hm => ?_, h.nd⟩
    obtain ⟨p, hp, he⟩ := List.mem_map.1 hm
    exact hne p hp he
/-- One's own slice is read by others for a while, and then is one's own again. -/
theorem Grow.lend {e : TypeId} {size n : Nat} {v : Value} {xs : List Value} {Lv : Own} (hg : Grow e size v n xs Lv) (h : St w0 w I (Lv ++ L)) :
    ∃ I1, I.le I1 ∧ St w0 w I1 L ∧ RdL I1 size v n xs ∧ ∀ (w' : World) (I2 : Imm) (L' : Own), I1.le I2 → St w0 w' I2 L' → ∃ I3, I.le I3 ∧ I3.le I2 ∧ St w0 w' I3 (Lv ++ L') := by
  obtain ⟨I1, h1, h2, h3⟩ := hg.freeze h
  obtain ⟨h4, h5, ⟨rfl, rfl, rfl⟩ | ⟨g, cap, cur, rfl, rfl, h6⟩⟩ := hg
  · exact ⟨I1, h1, h2, h3, fun w' I2 L' hle hst => ⟨I2, h1.trans hle, Imm.le.refl _, hst⟩⟩
  · have hn : I g = none := h.sep (g, .cells cur e) (by simp)
    obtain ⟨h7, h8⟩ := St.freeze (L := L) (by simpa using h)
    have hr : RdL (I.add g (.cells cur e)) size (.slice (some ⟨g, 0, none⟩) n cap) n xs := by
      refine ⟨h4, h5, _, cap, rfl, h6.1, fun j u hj => ⟨_, rfl, ?_⟩⟩
      rw [add_lit]
      unfold Imm.cell?
      simp only [Imm.add_at, Option.isSome_none, Bool.false_eq_true, if_false, Nat.zero_add]
      rw [← h6.2.2.2] at hj
      rw [List.getElem?_take] at hj
      split at hj
      · simpa using hj
      · cases hj
    refine ⟨_, h8, h7, hr, fun w' I2 L' hle hst => ⟨I2.del g, fun k o hk => ?_, Imm.del_le _ _, hst.thaw (hle g _ (Imm.add_at _ _ _))⟩⟩
    have hne : k ≠ g := fun e => by rw [e, hn] at hk; cases hk
    unfold Imm.del
    rw [if_neg hne]
    exact hle k o (h8 k o hk)
theorem GrowB.lend {e : TypeId} {v : Value} {bs : List UInt8} {Lv : Own} (hg : GrowB e v bs Lv) (h : St w0 w I (Lv ++ L)) :
    ∃ I1, I.le I1 ∧ St w0 w I1 L ∧ RdB I1 v bs ∧ ∀ (w' : World) (I2 : Imm) (L' : Own), I1.le I2 → St w0 w' I2 L' → ∃ I3, I.le I3 ∧ I3.le I2 ∧ St w0 w' I3 (Lv ++ L') := Grow.lend hg h
/-- The first elements of one's own slice. -/
theorem Grow.slice_h {t e e' : TypeId} {x y' : Operand} {v : Value} {n : Nat} {xs : List Value} {Lv : Own} {k' : IntKind} {hi : Int} {z : Value} {size bytes : Nat} (ht : P.underlying t = some (.slice e)) (he : TI P e z size bytes) (hx : ev l x = some v)
    (hy' : ev l y' = some (.int k' hi)) (hg : Grow e' size v n xs Lv) (h : 0 ≤ hi ∧ hi ≤ n) : Runs P (.slice t x none (some y') none) ty l w (.value (Go.Proofs.YtlmmpcdjkpibcaaX.partV v 0 hi.toNat size)) w := by
  obtain ⟨_, _, ⟨rfl, rfl, _⟩ | ⟨g, cap, cur, rfl, _, h3, _⟩⟩ := hg
  · exact runs_slice_h ht he hx hy' (by omega)
  · exact runs_slice_h ht he hx hy' (by omega)
theorem Grow.take {e : TypeId} {size n : Nat} {v : Value} {xs : List Value} {Lv : Own} (hg : Grow e size v n xs Lv) {hi : Nat} (h : hi ≤ n) : Grow e size (Go.Proofs.YtlmmpcdjkpibcaaX.partV v 0 hi size) hi (xs.take (hi * size)) Lv := by
  obtain ⟨h1, h2, ⟨rfl, rfl, rfl⟩ | ⟨g, cap, cur, rfl, rfl, h3, h4, h5, h6⟩⟩ := hg
  · have : hi = 0 := by omega
    subst this
    have hx : xs = [] := List.eq_nil_of_length_eq_zero (by simpa using h1)
    subst hx
    exact ⟨by simp, by simp, .inl ⟨by simp [Go.Proofs.YtlmmpcdjkpibcaaX.partV, sliced], rfl, rfl⟩⟩
  · have hle : hi * size ≤ n * size := Nat.mul_le_mul_right _ h
    refine ⟨by rw [List.length_take, h1]; omega, fun u hu => h2 u (List.mem_of_mem_take hu), .inr ⟨g, cap, cur, ?_, rfl, by omega, h4, h5, ?_⟩⟩
    · unfold Go.Proofs.YtlmmpcdjkpibcaaX.partV sliced
      simp only [Nat.zero_mul, Nat.sub_zero, Option.map_some, add_lit, Nat.add_zero, ite_self]
    · rw [← h6, List.take_take, Nat.min_eq_left hle]
theorem GrowB.take {e : TypeId} {v : Value} {bs : List UInt8} {Lv : Own} (hg : GrowB e v bs Lv) {hi : Nat} (h : hi ≤ bs.length) : GrowB e (Go.Proofs.YtlmmpcdjkpibcaaX.partV v 0 hi 1) (bs.take hi) Lv := by
  have := Grow.take hg h
  rw [Nat.mul_one] at this
  unfold GrowB
  rw [List.map_take, show (bs.take hi).length = hi by rw [List.length_take]; omega]
  exact this
/-- One's own bytes, cell by cell. -/
theorem GrowB.opened {e : TypeId} {v : Value} {bs : List UInt8} {Lv : Own} (hg : GrowB e v bs Lv) (hpos : 0 < bs.length) :
    ∃ g cap cur, v = .slice (some ⟨g, 0, none⟩) bs.length cap ∧ Lv = [(g, .cells cur e)] ∧ bs.length ≤ cur.size ∧ (∀ k : Nat, k < bs.length → cur[k]? = some (b8 (bs.getD k 0))) ∧
      ∀ (k : Nat) (c : UInt8), k < bs.length → GrowB e v (bs.set k c) [(g, .cells (cur.setIfInBounds k (b8 c)) e)] := by
  obtain ⟨h1, h2, ⟨_, h3, _⟩ | ⟨g, cap, cur, rfl, rfl, h3, h4, h5, h6⟩⟩ := hg
  · omega
  · rw [Nat.mul_one] at h5 h6
    refine ⟨g, cap, cur, rfl, rfl, by omega, fun k hk => ?_, fun k c hk => ⟨by simp, b8_one _, .inr ⟨g, cap, _, by rw [List.length_set], rfl, by rw [List.length_set]; exact h3, h4, by simp [h5], ?_⟩⟩⟩
    · have h7 : (cur.toList.take bs.length)[k]? = (bs.map b8)[k]? := by rw [h6]
      rw [List.getElem?_take_of_lt hk] at h7
      simp only [Array.getElem?_toList, List.getElem?_map, List.getElem?_eq_getElem hk, Option.map_some] at h7
      rw [h7]
      simp [hk]
    · rw [List.length_set, Nat.mul_one, Array.toList_setIfInBounds, List.take_set, h6, List.map_set]
theorem RdL.one {size n : Nat} {v : Value} {xs : List Value} (h : RdL I size v n xs) : v.oneCell' = true := by
  obtain ⟨_, _, A, cap, rfl, _⟩ := h
  rfl
theorem RdR.at {v : Value} {vs : List Value} {bss : List (List UInt8)} {i : Int} (h : RdR I v vs bss) (h0 : 0 ≤ i) (h1 : i < vs.length) : I.cell? (slPtr v (i.toNat * 1)) = some (vs.getD i.toNat (.slice none 0 0)) := by
  refine RdL.cell h.1 ?_
  have : i.toNat < vs.length := by omega
  simp [this]
theorem RdR.row {v : Value} {vs : List Value} {bss : List (List UInt8)} (h : RdR I v vs bss) {i : Nat} (h1 : i < vs.length) : RdB I (vs.getD i (.slice none 0 0)) (bss.getD i []) := by
  have h2 : i < bss.length := by rw [← h.2.1]; exact h1
  exact h.2.2 i _ _ (by simp [h1]) (by simp [h2])
theorem RdR.mono {I' : Imm} {v : Value} {vs : List Value} {bss : List (List UInt8)} (h : RdR I v vs bss) (hI : I.le I') : RdR I' v vs bss :=
  ⟨RdL.mono hI h.1, h.2.1, fun i u b h1 h2 => RdL.mono hI (h.2.2 i u b h1 h2)⟩
/-- append(xs, make([]T, n)...) to a slice that has no room for it. -/
theorem runs_appendZF {t e : TypeId} {tn : TypeId} {x y : Operand} {A : Option Addr} {cap m : Nat} {bs : List UInt8} (ht : P.underlying t = some (.slice e)) (he : TI P e (.int .u8 0) 1 1) (hti : P.underlying tn = some (.int .i64)) (hx : ev l x = some (.slice A bs.length cap)) (hy : ev l y = some (.int .i64 (m : Int)))
    (hst : St w0 w I L) (hr : RdB I (.slice A bs.length cap) bs) (hpos : 0 < bs.length) (hcap : cap < bs.length + m) (hb : bs.length + m ≤ 140737488355328) :
    ∃ v' w', Runs P (.call ⟨.builtin .append, #[x, y], #[t, tn]⟩) ty l w (.value v') w' ∧ ∃ Lv', St w0 w' I (Lv' ++ L) ∧ GrowB e v' (bs ++ List.replicate m 0) Lv' := by
  obtain ⟨h1, h2, A', cap', he', h3, h4⟩ := hr
  cases he'
  obtain ⟨a, rfl, _⟩ := h4 0 (b8 (bs[0])) (by simp [hpos])
  refine runs_appendZG ht he hti hx hy hb (some a) cap rfl hcap (run_firstCells_some (P := P) w.drew 1 bs.length _ bs.length cap (bs.map b8) (by simp) fun j u hj => ?_) hst
  obtain ⟨a', h5, h6⟩ := h4 j u hj
  cases h5
  exact hst.drewN.cell_imm h6
/-! ### Slices of structs, written out -/
theorem bfill_range (size : Nat) : ∀ (xs : List Value) (k : Nat) (pre post : List Value), pre.length = k * size → post.length = xs.length * size → (∀ x ∈ xs, (vcells x).length = size) →
    bfill (fun i => some (i * size, size)) (pre ++ post) ((List.range' k xs.length).zip xs) = some (pre ++ xs.flatMap vcells)
  | [], k, pre, post, h1, h2, h3 => by
    have : post = [] := List.eq_nil_of_length_eq_zero (by simpa using h2)
    subst this
    simp [bfill]
  | x :: r, k, pre, post, h1, h2, h3 => by
    simp only [List.length_cons, Nat.add_mul, Nat.one_mul] at h2
    have hx := h3 x (List.mem_cons_self ..)
    rw [List.length_cons, List.range'_succ, List.zip_cons_cons]
    unfold bfill
    simp only []
    rw [if_pos ⟨hx, by rw [List.length_append]; omega⟩]
    have e1 : (pre ++ post).take (k * size) = pre := by rw [← h1, List.take_left]
    have e2 : (pre ++ post).drop (k * size + size) = post.drop size := by
      rw [List.drop_append, List.drop_eq_nil_of_le (by omega), List.nil_append, h1]
      congr 1; omega
    rw [e1, e2, bfill_range size r (k + 1) (pre ++ vcells x) (post.drop size) (by rw [List.length_append, hx, h1, Nat.add_mul, Nat.one_mul]) (by rw [List.length_drop]; omega) (fun y hy => h3 y (List.mem_cons_of_mem _ hy))]
    simp
theorem runs_litF {t e : TypeId} {z : Value} {size bytes n : Nat} {parts : List (Nat × Operand)} {xs : List Value} (ht : P.underlying t = some (.slice e)) (he : TI P e z size bytes) (hn : n * size ≤ 16777216) (hv : evs l (parts.map (·.2)) = some xs) (hi : parts.map (·.1) = List.range n) (hlen : xs.length = n)
    (hsz : xs.all (fun x => (vcells x).length == size) = true) (hone : (xs.flatMap vcells).all Value.oneCell' = true) (hst : St w0 w I L) (hmax : n ≤ maxLen) :
    ∃ v w', Runs P (.buildSlice t n parts.toArray) ty l w (.value v) w' ∧ ∃ Lv, St w0 w' I (Lv ++ L) ∧ Grow e size v n (xs.flatMap vcells) Lv := by
  have hsz' : ∀ x ∈ xs, (vcells x).length = size := fun x hx => by simpa using List.all_eq_true.1 hsz x hx
  have hvs : ((List.range n).zip xs).map (·.2) = xs := List.map_snd_zip (by simp [hlen])
  have his : ((List.range n).zip xs).map (·.1) = List.range n := List.map_fst_zip (by simp [hlen])
  have hcl : (xs.flatMap vcells).length = n * size := by
    rw [← hlen]
    clear hv hi hlen hsz hone hvs his
    induction xs with
    | nil => simp
    | cons x r ih =>
      rw [List.flatMap_cons, List.length_append, hsz' x (List.mem_cons_self ..), ih (fun y hy => hsz' y (List.mem_cons_of_mem _ hy)), List.length_cons, Nat.add_mul, Nat.one_mul, Nat.add_comm]
  refine runs_buildSlice (vs := (List.range n).zip xs) ht he hn (by rw [hvs]; exact hv) (by rw [his]; exact hi) ?_ hst hcl (allOne hone) hmax
  have h := bfill_range size xs 0 [] ((Array.range (n * size)).map ((if n * size = 0 then #[] else z.cells)[· % (if n * size = 0 then #[] else z.cells).size]!)).toList (by simp) (by simp [hlen]) hsz'
  rw [List.nil_append, List.nil_append, ← List.range_eq_range', hlen] at h
  have h2 := fill_of h
  rw [Array.toArray_toList] at h2
  exact h2
theorem getElem?_flat {α β : Type} {f : α → List β} {size : Nat} (hf : ∀ a, (f a).length = size) : ∀ (xs : List α) (k j : Nat), j < size → (xs.flatMap f)[k * size + j]? = xs[k]?.bind fun a => (f a)[j]?
  | [], k, j, _ => by simp
  | a :: r, 0, j, h => by
    rw [List.flatMap_cons, List.getElem?_append_left (by rw [hf]; omega)]
    simp
  | a :: r, k + 1, j, h => by
    rw [List.flatMap_cons, List.getElem?_append_right (by rw [hf, Nat.add_mul]; omega), hf, show (k + 1) * size + j - size = k * size + j by rw [Nat.add_mul]; omega, getElem?_flat hf r k j h]
    simp
/-- A struct of a slice that is only read. -/
theorem RdL.loadRow {x : Operand} {T : TypeId} {z : Value} {bytes n size i : Nat} {v : Value} {xs row : List Value} (hT : isAggT P T = true) (ht : TI P T z size bytes) (hx : ev l x = some (.pointer (some (slPtr v (i * size))))) (hr : RdL I size v n xs) (hst : St w0 w I L) (hlen : row.length = size)
    (hget : ∀ j u, row[j]? = some u → xs[i * size + j]? = some u) : Runs P (.load T x) ty l w (.value (.agg row.toArray)) w := by
  refine runs_loadA hT (by rw [hlen]; exact ht) hx fun j u hj => ?_
  have h1 := hst.cell_imm (hr.cell (hget j u hj))
  obtain ⟨_, _, A, cap, rfl, _, h4⟩ := hr
  obtain ⟨a, rfl, _⟩ := h4 _ u (hget j u hj)
  simp only [slPtr] at h1 ⊢
  rw [Addr.add_add]
  exact h1
theorem rows4 {v a b c d : Value} {x y z t : List UInt8} (h : RdL I 1 v 4 [a, b, c, d]) (ha : RdB I a x) (hb : RdB I b y) (hc : RdB I c z) (hd : RdB I d t) : RdR I v [a, b, c, d] [x, y, z, t] := by
  refine ⟨h, rfl, fun i u w h1 h2 => ?_⟩
  match i with
  | 0 => cases h1; cases h2; exact ha
  | 1 => cases h1; cases h2; exact hb
  | 2 => cases h1; cases h2; exact hc
  | 3 => cases h1; cases h2; exact hd
  | _ + 4 => cases h1
theorem one4 {a b c d : Value} (ha : a.oneCell' = true) (hb : b.oneCell' = true) (hc : c.oneCell' = true) (hd : d.oneCell' = true) : ∀ u ∈ [a, b, c, d], u.oneCell' = true := fun u hu => by
  simp only [List.mem_cons, List.not_mem_nil, or_false] at hu
  rcases hu with rfl | rfl | rfl | rfl <;> assumption
theorem xor8 (a c : UInt8) : bitop .xor .u8 (a.toNat : Int) (c.toNat : Int) = ((a ^^^ c).toNat : Int) := by
  show IntKind.u8.wrap (((BitVec.ofInt 8 (a.toNat : Int)) ^^^ (BitVec.ofInt 8 (c.toNat : Int))).toNat : Int) = _
  have ha := a.toNat_lt
  have hc := c.toNat_lt
  rw [BitVec.ofInt_natCast, BitVec.ofInt_natCast, BitVec.toNat_xor, BitVec.toNat_ofNat, BitVec.toNat_ofNat, Nat.mod_eq_of_lt (by omega), Nat.mod_eq_of_lt (by omega), UInt8.toNat_xor, IntKind.wrap_u8]
  have : a.toNat ^^^ c.toNat < 2 ^ 8 := Nat.xor_lt_two_pow (by omega) (by omega)
  omega
theorem xor_one_nat (n : Nat) : n ^^^ 1 = if n % 2 = 0 then n + 1 else n - 1 := by
  have h1 : (n ^^^ 1) / 2 = n / 2 := by rw [Nat.xor_div_two]; simp
  have h2 : (n ^^^ 1) % 2 = (n + 1) % 2 := by
    have h := @Nat.xor_mod_two_eq_one n 1
    omega
  split <;> omega
theorem xor1 {n : Int} (h : 0 ≤ n ∧ n < 2 ^ 40) : bitop .xor .i64 n 1 = if n % 2 = 0 then n + 1 else n - 1 := by
  obtain ⟨m, rfl⟩ : ∃ m : Nat, n = m := ⟨n.toNat, by omega⟩
  show IntKind.i64.wrap (((BitVec.ofInt 64 (m : Int)) ^^^ (BitVec.ofInt 64 1)).toNat : Int) = _
  have hm : m < 2 ^ 40 := by omega
  rw [show (1 : Int) = ((1 : Nat) : Int) from rfl, BitVec.ofInt_natCast, BitVec.ofInt_natCast, BitVec.toNat_xor, BitVec.toNat_ofNat, BitVec.toNat_ofNat, Nat.mod_eq_of_lt (by omega), Nat.mod_eq_of_lt (by omega), xor_one_nat, wrap_i64 (by split <;> omega)]
  split <;> split <;> omega
end Go.Proofs.YtlmmpcdjkpibcaaX
