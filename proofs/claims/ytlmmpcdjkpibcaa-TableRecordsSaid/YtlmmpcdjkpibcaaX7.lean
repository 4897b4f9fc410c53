/- Bytes of numbers; slices written out. Own lemmas, no program in sight. -/
import Derived.Test.YtlmmpcdjkpibcaaX6
namespace Go.Proofs.YtlmmpcdjkpibcaaX
set_option linter.unusedVariables false
set_option linter.unusedSimpArgs false
open Go Go.RowKit
variable {w0 w : World} {I : Imm} {L : Own} {P : Program} {l : Env} {ty : TypeId}

/-- The byte of a number. -/
def u8 (n : Int) : UInt8 := UInt8.ofNat (n % 256).toNat
theorem u8_toNat (n : Int) : ((u8 n).toNat : Int) = n % 256 := by
  unfold u8
  have : (n % 256).toNat < 256 := by omega
  rw [UInt8.toNat_ofNat']
  omega
theorem u8_wrap (n : Int) : IntKind.u8.wrap n = ((u8 n).toNat : Int) := by
  rw [u8_toNat]
  rfl
theorem u8_of (c : UInt8) : u8 (c.toNat : Int) = c := by
  apply UInt8.toNat_inj.1
  have := u8_toNat (c.toNat : Int)
  have h := c.toNat_lt
  omega
theorem runs_convB {s d : TypeId} {x : Operand} {j : IntKind} {a : Int} (hs : (P.underlying s).isSome = true) (hd : P.underlying d = some (.int .u8)) (hx : ev l x = some (.int j a)) :
    Runs P (.convert s d x) ty l w (.value (b8 (u8 a))) w := by
  have := runs_convI (w := w) (ty := ty) hs hd hx
  rw [u8_wrap] at this
  exact this
/-- A small number of whatever kind as an int. -/
theorem runs_conv64 {s d : TypeId} {x : Operand} {j : IntKind} {a : Int} (hs : (P.underlying s).isSome = true) (hd : P.underlying d = some (.int .i64)) (hx : ev l x = some (.int j a)) (h : -9223372036854775808 ≤ a ∧ a ≤ 9223372036854775807) :
    Runs P (.convert s d x) ty l w (.value (.int .i64 a)) w := by
  have := runs_convI (w := w) (ty := ty) hs hd hx
  rw [wrap_i64 h] at this
  exact this
theorem runs_shrE {t t' : TypeId} {x y : Operand} {k yk : IntKind} {a : Int} {n : Nat} (hx : ev l x = some (.int k a)) (hy : ev l y = some (.int yk (n : Int))) (h : n ≤ k.bits) :
    Runs P (.binOp .shr t x y t') ty l w (.value (.int k (a / 2 ^ n))) w := by
  have := runs_shr (w := w) (ty := ty) (P := P) (t := t) (t' := t') hx hy h
  rwa [Int.fdiv_eq_ediv_of_nonneg _ (Int.pow_nonneg (by decide))] at this
theorem fill_one (xs : List Value) : ∀ (k : Nat) (arr : Array Value), k + xs.length ≤ arr.size → (∀ u ∈ xs, u.oneCell' = true) →
    Instr.fill (fun i => some (i * 1, 1)) arr ((xs.zipIdx k).map fun p => (p.2, p.1)) = some (arr.toList.take k ++ xs ++ arr.toList.drop (k + xs.length)).toArray := by
  induction xs with
  | nil => intro k arr _ _; simp [Instr.fill]
  | cons x r ih =>
    intro k arr hle hone
    simp only [List.length_cons] at hle
    have hc : x.cells = #[x] := by
      have := hone x (List.mem_cons_self ..)
      cases x <;> first | rfl | (simp [Value.oneCell'] at this; done)
    simp only [List.zipIdx_cons, List.map_cons, Instr.fill, hc]
    have h1 : ¬ ((#[x] : Array Value).size ≠ 1 ∨ k * 1 + (#[x] : Array Value).size > arr.size) := by simp; omega
    simp only [Nat.mul_one, List.size_toArray, List.length_cons, List.length_nil, Nat.zero_add, ne_eq, not_true_eq_false, false_or, decide_false, Bool.false_or]
    rw [if_neg (by simp; omega)]
    have h2 : (Array.zipIdx #[x]).foldl (fun cs (p : Value × Nat) => cs.setIfInBounds (k + p.2) p.1) arr = arr.setIfInBounds k x := by simp [Array.zipIdx]
    have h3 := ih (k + 1) (arr.setIfInBounds k x) (by rw [Array.size_setIfInBounds]; omega) (fun u hu => hone u (List.mem_cons_of_mem _ hu))
    simp only [Nat.mul_one] at h3
    rw [h2, h3]
    congr 2
    rw [Array.toList_setIfInBounds]
    have hlen : k < arr.toList.length := by simp; omega
    rw [List.set_eq_take_append_cons_drop, if_pos hlen]
    have ht : (arr.toList.take k).length = k := by rw [List.length_take]; omega
    rw [List.take_append, List.drop_append, ht]
    have e1 : k + 1 - k = 1 := by omega
    have e2 : k + 1 + r.length - k = r.length + 1 := by omega
    rw [e1, e2, List.take_of_length_le (l := arr.toList.take k) (by omega), List.drop_eq_nil_of_le (as := arr.toList.take k) (by omega)]
    simp only [List.take_succ_cons, List.take_zero, List.nil_append, List.drop_succ_cons, List.drop_drop, List.length_cons, List.append_assoc, List.cons_append]
    rw [show k + (r.length + 1) = k + 1 + r.length from by omega]
theorem runs_lit1 {t e : TypeId} {z : Value} {bytes n : Nat} {parts : List (Nat × Operand)} {xs : List Value} (ht : P.underlying t = some (.slice e)) (he : TI P e z 1 bytes) (hn : n ≤ 100000) (hv : evs l (parts.map (·.2)) = some xs) (hi : parts.map (·.1) = List.range n) (hlen : xs.length = n) (hone : ∀ u ∈ xs, u.oneCell' = true) (hst : St w0 w I L) :
    ∃ v w', Runs P (.buildSlice t n parts.toArray) ty l w (.value v) w' ∧ ∃ Lv, St w0 w' I (Lv ++ L) ∧ Grow e 1 v n xs Lv := by
  have hvs : (((xs.zipIdx 0).map fun p => (p.2, p.1)).map (·.2)) = xs := by
    rw [List.map_map]
    exact List.zipIdx_map_fst 0 xs
  have hvi : (((xs.zipIdx 0).map fun p => (p.2, p.1)).map (·.1)) = List.range n := by
    rw [List.map_map]
    rw [show ((fun x : Nat × Value => x.1) ∘ fun p : Value × Nat => (p.2, p.1)) = Prod.snd from rfl, List.zipIdx_map_snd, hlen, List.range_eq_range']
  refine runs_buildSlice (vs := (xs.zipIdx 0).map fun p => (p.2, p.1)) ht he (by omega) (by rw [hvs]; exact hv) (by rw [hvi]; exact hi) ?_ hst (by omega) hone (by unfold maxLen; omega)
  have := fill_one xs 0 ((Array.range (n * 1)).map ((if n * 1 = 0 then #[] else z.cells)[· % (if n * 1 = 0 then #[] else z.cells).size]!)) (by simp; omega) hone
  rw [this]
  congr 2
  simp only [List.take_zero, List.nil_append, Nat.zero_add]
  rw [List.drop_eq_nil_of_le (by simp; omega)]
  simp
/-- At once written no more. -/
theorem runs_lit1R {t e : TypeId} {z : Value} {bytes n : Nat} {parts : List (Nat × Operand)} {xs : List Value} (ht : P.underlying t = some (.slice e)) (he : TI P e z 1 bytes) (hn : n ≤ 100000) (hv : evs l (parts.map (·.2)) = some xs) (hi : parts.map (·.1) = List.range n) (hlen : xs.length = n) (hone : ∀ u ∈ xs, u.oneCell' = true) (hst : St w0 w I L) :
    ∃ v w', Runs P (.buildSlice t n parts.toArray) ty l w (.value v) w' ∧ ∃ I', Imm.le I I' ∧ St w0 w' I' L ∧ RdL I' 1 v n xs := by
  obtain ⟨v, w', h1, Lv, h2, h3⟩ := runs_lit1 (ty := ty) ht he hn hv hi hlen hone hst
  obtain ⟨I', h4, h5, h6⟩ := h3.freeze h2
  exact ⟨v, w', h1, I', h4, h5, h6⟩
theorem runs_litB {t e : TypeId} {n : Nat} {parts : List (Nat × Operand)} {xs : List Value} {bs : List UInt8} (hx : xs = bs.map b8) (ht : P.underlying t = some (.slice e)) (he : TI P e (.int .u8 0) 1 1) (hn : n ≤ 100000) (hv : evs l (parts.map (·.2)) = some xs) (hi : parts.map (·.1) = List.range n) (hlen : bs.length = n) (hst : St w0 w I L) :
    ∃ v w', Runs P (.buildSlice t n parts.toArray) ty l w (.value v) w' ∧ ∃ I', Imm.le I I' ∧ St w0 w' I' L ∧ RdB I' v bs := by
  subst hx
  subst hlen
  exact runs_lit1R ht he hn hv hi (by simp) (b8_one bs) hst
theorem runs_litB0 {t e : TypeId} (ht : P.underlying t = some (.slice e)) (he : TI P e (.int .u8 0) 1 1) (hst : St w0 w I L) :
    ∃ v w', Runs P (.buildSlice t 0 #[]) ty l w (.value v) w' ∧ ∃ Lv, St w0 w' I (Lv ++ L) ∧ GrowB e v [] Lv :=
  runs_lit1 (parts := []) (xs := []) ht he (by decide) rfl rfl rfl (by simp) hst
theorem runs_loadO {x : Operand} {S : TypeId} {z : Value} {n bytes : Nat} {k b off : Nat} {cs : Array Value} {T : TypeId} {fz : Nat × Nat} (hT : isAggT P S = true) (ht : TI P S z n bytes) (h : ev l x = some (.pointer (some ⟨b, off, none⟩))) (hst : St w0 w I L)
    (hL : L[k]? = some (b, .cells cs T fz)) (hn : ((cs.toList.drop off).take n).length = n) : Runs P (.load S x) ty l w (.value (.agg ((cs.toList.drop off).take n).toArray)) w := by
  refine runs_loadA hT (by rw [hn]; exact ht) h (hst.cells_own hL (by rw [hn]))
theorem runs_eq_nilptr {t t' e : TypeId} {x : Operand} {a : Option Addr} (ht : P.underlying t = some (.pointer e)) (hx : ev l x = some (.pointer a)) :
    Runs P (.binOp .eql t x (.const (.pointer none)) t') ty l w (.value (.bool a.isNone)) w :=
  .of (fun ρ => do eqGuard .eql t x (.const (.pointer none)) (ρ x) (ρ (.const (.pointer none))); binOp .eql t (ρ x) (ρ (.const (.pointer none)))) (fun _ _ _ _ _ => rfl) fun ρ hρ => by
    have h2 : ρ (.const (.pointer none)) = .pointer none := hρ _ _ rfl
    have he : (Op.equal t (.pointer a) (.pointer none)).run P w = .ok a.isNone w := by
      unfold Op.equal Op.maxDepth
      unfold Op.equalIn
      cases a <;> simp only [Sem.run_bind, run_underlying ht, Result.andThen] <;> rfl
    have hg : (eqGuard .eql t x (.const (.pointer none)) (.pointer a) (.pointer none)).run P w = .ok () w := rfl
    simp only [hρ x _ hx, h2, Sem.run_bind, hg, Result.andThen]
    have hb : (binOp .eql t (.pointer a) (.pointer none) : Sem Value) = (do pure (.bool (← Op.equal t (.pointer a) (.pointer none)))) := by cases a <;> rfl
    rw [hb]
    simp only [Sem.run_bind, he, Result.andThen]
    rfl
theorem runs_ne_nilptr {t t' e : TypeId} {x : Operand} {a : Option Addr} (ht : P.underlying t = some (.pointer e)) (hx : ev l x = some (.pointer a)) :
    Runs P (.binOp .neq t x (.const (.pointer none)) t') ty l w (.value (.bool (!a.isNone))) w :=
  .of (fun ρ => do eqGuard .neq t x (.const (.pointer none)) (ρ x) (ρ (.const (.pointer none))); binOp .neq t (ρ x) (ρ (.const (.pointer none)))) (fun _ _ _ _ _ => rfl) fun ρ hρ => by
    have h2 : ρ (.const (.pointer none)) = .pointer none := hρ _ _ rfl
    have he : (Op.equal t (.pointer a) (.pointer none)).run P w = .ok a.isNone w := by
      unfold Op.equal Op.maxDepth
      unfold Op.equalIn
      cases a <;> simp only [Sem.run_bind, run_underlying ht, Result.andThen] <;> rfl
    have hg : (eqGuard .neq t x (.const (.pointer none)) (.pointer a) (.pointer none)).run P w = .ok () w := rfl
    simp only [hρ x _ hx, h2, Sem.run_bind, hg, Result.andThen]
    have hb : (binOp .neq t (.pointer a) (.pointer none) : Sem Value) = (do pure (.bool (!(← Op.equal t (.pointer a) (.pointer none))))) := by cases a <;> rfl
    rw [hb]
    simp only [Sem.run_bind, he, Result.andThen]
    rfl
theorem Grow.len {t e e' : TypeId} {x : Operand} {v : Value} {size n : Nat} {xs : List Value} {Lv : Own} (ht : P.underlying t = some (.slice e)) (hx : ev l x = some v) (hg : Grow e' size v n xs Lv) : Runs P (.call ⟨.builtin .len, #[x], #[t]⟩) ty l w (.value (.int .i64 n)) w := by
  obtain ⟨_, _, ⟨rfl, rfl, rfl⟩ | ⟨g, cap, cur, rfl, _⟩⟩ := hg
  · exact runs_lenL ht hx
  · exact runs_lenL ht hx
theorem bat_ok (bs : List UInt8) (i : Int) : -9223372036854775808 ≤ bat bs i ∧ bat bs i ≤ 9223372036854775807 := by
  have := bat_lt bs i
  omega
theorem byte_ok (c : UInt8) : -9223372036854775808 ≤ (c.toNat : Int) ∧ (c.toNat : Int) ≤ 9223372036854775807 := by
  have := c.toNat_lt
  omega
/-- The worlds that may come while a region that draws is under way. -/
def FSt (w0 : World) (I : Imm) (L : Own) (w' : World) : Prop := ∃ I', I.le I' ∧ St w0 w' I' L
theorem FSt.of {I' : Imm} {L' : Own} (h : St w0 w I' L') (hI : I.le I') (hs : L.Sublist L') : FSt w0 I L w := ⟨I', hI, h.sub hs⟩
theorem CW.drawSt {N : Nat} {Q : Exit → Act → World → Prop} {id : Nat} {os : List Oper} (hst : St w0 w I L) (plan : Plan) (hm : P.follows .mixedOrders = true) (hp : (Region.noSelect os.toArray && planOk .any os.toArray os.length plan (Array.replicate os.length false)) = true)
    (h : ∀ w, St w0 w I L → DRW P N os.toArray (FSt w0 I L) (fun a w => Q .normal a w) plan l w) : CW P N Q (.region id os.toArray true) l w :=
  CW.draw (FSt w0 I L) plan hm hp ⟨I, Imm.le.refl I, hst.draw⟩ (h _ hst.draw)
end Go.Proofs.YtlmmpcdjkpibcaaX
