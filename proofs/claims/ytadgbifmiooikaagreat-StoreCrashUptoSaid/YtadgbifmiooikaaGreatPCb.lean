/- Parts of a proof, joined: walks through the program's functions and their laws, in the order in which they need each other. -/
import Derived.Test.YtadgbifmiooikaaGreatPCa
import Derived.Laws.StructEq
import Derived.Below
import Derived.Lib.AppendStr
import Derived.Test.YtadgbifmiooikaaGreatProg
import Derived.KernelRfl
import Derived.Laws.IdiomStrings
import Derived.Lib.OthersKept
import Derived.Lib.MapLaws
import Derived.Laws.Runes
import Derived.Laws.StandIn
import Derived.Lib.Bytealg
import Derived.Lib.QuoteLoop
import Derived.Lib.TrimUEq
import Derived.Recover
import Derived.Laws.CopyRow
import Derived.Laws.IdiomCopy
import Derived.MapKept
namespace Go.Proofs.YtadgbifmiooikaaGreatX
set_option linter.unusedVariables false
set_option linter.unusedSimpArgs false
open Go Go.RowKit
variable {w0 w : World} {I : Imm} {L : Own} {P : Program} {l : Env} {ty : TypeId}
def u8 (n : Int) : UInt8 := UInt8.ofNat (n % 256).toNat
theorem u8_toNat (n : Int) : ((u8 n).toNat : Int) = n % 256 := by
  unfold u8
  have : (n % 256).toNat < 256 := by omega
  rw [UInt8.toNat_ofNat']; omega
theorem u8_wrap (n : Int) : IntKind.u8.wrap n = ((u8 n).toNat : Int) := by
  rw [u8_toNat]
  rfl
theorem runs_convB {s d : TypeId} {x : Operand} {j : IntKind} {a : Int} (hs : (P.underlying s).isSome = true) (hd : P.underlying d = some (.int .u8)) (hx : ev l x = some (.int j a)) :
    Runs P (.convert s d x) ty l w (.value (b8 (u8 a))) w := by
  have := runs_convI (w := w) (ty := ty) hs hd hx; rw [u8_wrap] at this; exact this
theorem runs_conv64 {s d : TypeId} {x : Operand} {j : IntKind} {a : Int} (hs : (P.underlying s).isSome = true) (hd : P.underlying d = some (.int .i64)) (hx : ev l x = some (.int j a)) (h : -9223372036854775808 ≤ a ∧ a ≤ 9223372036854775807) :
    Runs P (.convert s d x) ty l w (.value (.int .i64 a)) w := by
  have := runs_convI (w := w) (ty := ty) hs hd hx; rw [wrap_i64 h] at this; exact this
theorem runs_shrE {t t' : TypeId} {x y : Operand} {k yk : IntKind} {a : Int} {n : Nat} (hx : ev l x = some (.int k a)) (hy : ev l y = some (.int yk (n : Int))) (h : n ≤ k.bits) :
    Runs P (.binOp .shr t x y t') ty l w (.value (.int k (a / 2 ^ n))) w := by
  have := runs_shr (w := w) (ty := ty) (P := P) (t := t) (t' := t') hx hy h
  rwa [Int.fdiv_eq_ediv_of_nonneg _ (Int.pow_nonneg (by decide))] at this
theorem fill_one (xs : List Value) : ∀ (k : Nat) (arr : Array Value), k + xs.length ≤ arr.size → (∀ u ∈ xs, u.oneCell' = true) →
    Instr.fill (fun i => some (i * 1, 1)) arr ((xs.zipIdx k).map fun p => (p.2, p.1)) = some (arr.toList.take k ++ xs ++ arr.toList.drop (k + xs.length)).toArray := by
  induction xs with
  | nil => intro k arr _ _; simp [Instr.fill]
  | cons x r ih =>
    intro k arr hle hone
    simp only [List.length_cons] at hle
    have hc : x.cells = #[x] := by
      have := hone x (List.mem_cons_self ..)
      cases x <;> first | rfl | (simp [Value.oneCell'] at this; done)
    simp only [List.zipIdx_cons, List.map_cons, Instr.fill, hc]
    have h1 : ¬ ((#[x] : Array Value).size ≠ 1 ∨ k * 1 + (#[x] : Array Value).size > arr.size) := by simp; omega
    simp only [Nat.mul_one, List.size_toArray, List.length_cons, List.length_nil, Nat.zero_add, ne_eq, not_true_eq_false, false_or, decide_false, Bool.false_or]
    rw [if_neg (by simp; omega)]
    have h2 : (Array.zipIdx #[x]).foldl (fun cs (p : Value × Nat) => cs.setIfInBounds (k + p.2) p.1) arr = arr.setIfInBounds k x := by simp [Array.zipIdx]
    have h3 := ih (k + 1) (arr.setIfInBounds k x) (by rw [Array.size_setIfInBounds]; omega) (fun u hu => hone u (List.mem_cons_of_mem _ hu))
    simp only [Nat.mul_one] at h3
    rw [h2, h3]
    congr 2
    rw [Array.toList_setIfInBounds]
    have hlen : k < arr.toList.length := by simp; omega
    rw [List.set_eq_take_append_cons_drop, if_pos hlen]
    have ht : (arr.toList.take k).length = k := by rw [List.length_take]; omega
    rw [List.take_append, List.drop_append, ht]
    have e1 : k + 1 - k = 1 := by omega
    have e2 : k + 1 + r.length - k = r.length + 1 := by omega
    rw [e1, e2, List.take_of_length_le (l := arr.toList.take k) (by omega), drop_nil_of (l := arr.toList.take k) (by omega)]
    simp only [List.take_succ_cons, List.take_zero, List.nil_append, List.drop_succ_cons, List.drop_drop, List.length_cons, List.append_assoc, List.cons_append]
    rw [show k + (r.length + 1) = k + 1 + r.length from by omega]
theorem runs_lit1 {t e : TypeId} {z : Value} {bytes n : Nat} {parts : List (Nat × Operand)} {xs : List Value} (ht : P.underlying t = some (.slice e)) (he : TI P e z 1 bytes) (hn : n ≤ 100000) (hv : evs l (parts.map (·.2)) = some xs) (hi : parts.map (·.1) = List.range n) (hlen : xs.length = n) (hone : ∀ u ∈ xs, u.oneCell' = true) (hst : St w0 w I L) :
    ∃ v w', Runs P (.buildSlice t n parts.toArray) ty l w (.value v) w' ∧ ∃ Lv, St w0 w' I (Lv ++ L) ∧ Grow e 1 v n xs Lv := by
  have hvs : (((xs.zipIdx 0).map fun p => (p.2, p.1)).map (·.2)) = xs := by
    rw [List.map_map]; exact List.zipIdx_map_fst 0 xs
  have hvi : (((xs.zipIdx 0).map fun p => (p.2, p.1)).map (·.1)) = List.range n := by
    rw [List.map_map]; rw [show ((fun x : Nat × Value => x.1) ∘ fun p : Value × Nat => (p.2, p.1)) = Prod.snd from rfl, List.zipIdx_map_snd, hlen, List.range_eq_range']
  refine runs_buildSlice (vs := (xs.zipIdx 0).map fun p => (p.2, p.1)) ht he (by omega) (by rw [hvs]; exact hv) (by rw [hvi]; exact hi) ?_ hst (by omega) hone (by unfold maxLen; omega); have := fill_one xs 0 ((Array.range (n * 1)).map ((if n * 1 = 0 then #[] else z.cells)[· % (if n * 1 = 0 then #[] else z.cells).size]!)) (by simp; omega) hone; rw [this]
  congr 2
  simp only [List.take_zero, List.nil_append, Nat.zero_add]
  rw [List.drop_eq_nil_of_le (by simp; omega)]
  simp
theorem runs_lit1R {t e : TypeId} {z : Value} {bytes n : Nat} {parts : List (Nat × Operand)} {xs : List Value} (ht : P.underlying t = some (.slice e)) (he : TI P e z 1 bytes) (hn : n ≤ 100000) (hv : evs l (parts.map (·.2)) = some xs) (hi : parts.map (·.1) = List.range n) (hlen : xs.length = n) (hone : ∀ u ∈ xs, u.oneCell' = true) (hst : St w0 w I L) :
    ∃ v w', Runs P (.buildSlice t n parts.toArray) ty l w (.value v) w' ∧ ∃ I', Imm.le I I' ∧ St w0 w' I' L ∧ RdL I' 1 v n xs := by
  obtain ⟨v, w', h1, Lv, h2, h3⟩ := runs_lit1 (ty := ty) ht he hn hv hi hlen hone hst; obtain ⟨I', h4, h5, h6⟩ := h3.freeze h2; exact ⟨v, w', h1, I', h4, h5, h6⟩
theorem runs_litB {t e : TypeId} {n : Nat} {parts : List (Nat × Operand)} {xs : List Value} {bs : List UInt8} (hx : xs = bs.map b8) (ht : P.underlying t = some (.slice e)) (he : TI P e (.int .u8 0) 1 1) (hn : n ≤ 100000) (hv : evs l (parts.map (·.2)) = some xs) (hi : parts.map (·.1) = List.range n) (hlen : bs.length = n) (hst : St w0 w I L) :
    ∃ v w', Runs P (.buildSlice t n parts.toArray) ty l w (.value v) w' ∧ ∃ I', Imm.le I I' ∧ St w0 w' I' L ∧ RdB I' v bs := by
  subst hx; subst hlen; exact runs_lit1R ht he hn hv hi (by simp) (b8_one bs) hst
theorem runs_litB0 {t e : TypeId} (ht : P.underlying t = some (.slice e)) (he : TI P e (.int .u8 0) 1 1) (hst : St w0 w I L) :
    ∃ v w', Runs P (.buildSlice t 0 #[]) ty l w (.value v) w' ∧ ∃ Lv, St w0 w' I (Lv ++ L) ∧ GrowB e v [] Lv :=
  runs_lit1 (parts := []) (xs := []) ht he (by decide) rfl rfl rfl (by simp) hst
theorem runs_loadO {x : Operand} {S : TypeId} {z : Value} {n bytes : Nat} {k b off : Nat} {cs : Array Value} {T : TypeId} {fz : Nat × Nat} (hT : isAggT P S = true) (ht : TI P S z n bytes) (h : ev l x = some (.pointer (some ⟨b, off, none⟩))) (hst : St w0 w I L)
    (hL : L[k]? = some (b, .cells cs T fz)) (hn : ((cs.toList.drop off).take n).length = n) : Runs P (.load S x) ty l w (.value (.agg ((cs.toList.drop off).take n).toArray)) w := by
  refine runs_loadA hT (by rw [hn]; exact ht) h (hst.cells_own hL (by rw [hn]))
theorem runs_eq_nilptr {t t' e : TypeId} {x : Operand} {a : Option Addr} (ht : P.underlying t = some (.pointer e)) (hx : ev l x = some (.pointer a)) :
    Runs P (.binOp .eql t x (.const (.pointer none)) t') ty l w (.value (.bool a.isNone)) w :=
  .of (fun ρ => do eqGuard .eql t x (.const (.pointer none)) (ρ x) (ρ (.const (.pointer none))); binOp .eql t (ρ x) (ρ (.const (.pointer none)))) (fun _ _ _ _ _ => rfl) fun ρ hρ => by
    have h2 : ρ (.const (.pointer none)) = .pointer none := hρ _ _ rfl
    have he : (Op.equal t (.pointer a) (.pointer none)).run P w = .ok a.isNone w := by
      unfold Op.equal Op.maxDepth; unfold Op.equalIn
      cases a <;> simp only [Sem.run_bind, run_underlying ht, Result.andThen] <;> rfl
    have hg : (eqGuard .eql t x (.const (.pointer none)) (.pointer a) (.pointer none)).run P w = .ok () w := rfl
    simp only [hρ x _ hx, h2, Sem.run_bind, hg, Result.andThen]
    have hb : (binOp .eql t (.pointer a) (.pointer none) : Sem Value) = (do pure (.bool (← Op.equal t (.pointer a) (.pointer none)))) := by cases a <;> rfl
    rw [hb]
    simp only [Sem.run_bind, he, Result.andThen]
    rfl
theorem runs_ne_nilptr {t t' e : TypeId} {x : Operand} {a : Option Addr} (ht : P.underlying t = some (.pointer e)) (hx : ev l x = some (.pointer a)) :
    Runs P (.binOp .neq t x (.const (.pointer none)) t') ty l w (.value (.bool (!a.isNone))) w :=
  .of (fun ρ => do eqGuard .neq t x (.const (.pointer none)) (ρ x) (ρ (.const (.pointer none))); binOp .neq t (ρ x) (ρ (.const (.pointer none)))) (fun _ _ _ _ _ => rfl) fun ρ hρ => by
    have h2 : ρ (.const (.pointer none)) = .pointer none := hρ _ _ rfl
    have he : (Op.equal t (.pointer a) (.pointer none)).run P w = .ok a.isNone w := by
      unfold Op.equal Op.maxDepth; unfold Op.equalIn
      cases a <;> simp only [Sem.run_bind, run_underlying ht, Result.andThen] <;> rfl
    have hg : (eqGuard .neq t x (.const (.pointer none)) (.pointer a) (.pointer none)).run P w = .ok () w := rfl
    simp only [hρ x _ hx, h2, Sem.run_bind, hg, Result.andThen]
    have hb : (binOp .neq t (.pointer a) (.pointer none) : Sem Value) = (do pure (.bool (!(← Op.equal t (.pointer a) (.pointer none))))) := by cases a <;> rfl
    rw [hb]
    simp only [Sem.run_bind, he, Result.andThen]
    rfl
theorem Grow.len {t e e' : TypeId} {x : Operand} {v : Value} {size n : Nat} {xs : List Value} {Lv : Own} (ht : P.underlying t = some (.slice e)) (hx : ev l x = some v) (hg : Grow e' size v n xs Lv) : Runs P (.call ⟨.builtin .len, #[x], #[t]⟩) ty l w (.value (.int .i64 n)) w := by
  obtain ⟨_, _, ⟨rfl, rfl, rfl⟩ | ⟨g, cap, cur, rfl, _⟩⟩ := hg
  · exact runs_lenL ht hx
  · exact runs_lenL ht hx
theorem bat_ok (bs : List UInt8) (i : Int) : -9223372036854775808 ≤ bat bs i ∧ bat bs i ≤ 9223372036854775807 := by
  have := bat_lt bs i; omega
theorem byte_ok (c : UInt8) : -9223372036854775808 ≤ (c.toNat : Int) ∧ (c.toNat : Int) ≤ 9223372036854775807 := by
  have := c.toNat_lt; omega
def FSt (w0 : World) (I : Imm) (L : Own) (w' : World) : Prop := ∃ I', I.le I' ∧ St w0 w' I' L
theorem FSt.of {I' : Imm} {L' : Own} (h : St w0 w I' L') (hI : I.le I') (hs : L.Sublist L') : FSt w0 I L w := ⟨I', hI, h.sub hs⟩
theorem FSt.ofA {w0 w : World} {I I' : Imm} {L L' : Own} (h : St w0 w I' L') (hI : I.le I') (hs : L.Sublist L' := by first | exact (List.sublist_cons_self _ _).trans (List.sublist_append_right _ _) | exact List.Sublist.refl _ | exact List.sublist_cons_self _ _ | exact List.sublist_append_right _ _ | exact (List.sublist_cons_self _ _).trans (List.sublist_cons_self _ _) | exact (List.sublist_append_right _ _).trans (List.sublist_cons_self _ _) | simp) : FSt w0 I L w := FSt.of h hI hs
theorem CW.drawSt {N : Nat} {Q : Exit → Act → World → Prop} {id : Nat} {os : List Oper} (hst : St w0 w I L) (plan : Plan) (hm : P.follows .mixedOrders = true) (hp : (Region.noSelect os.toArray && planOk .any os.toArray os.length plan (Array.replicate os.length false)) = true)
    (h : ∀ w, St w0 w I L → DRW P N os.toArray (FSt w0 I L) (fun a w => Q .normal a w) plan l w) : CW P N Q (.region id os.toArray true) l w :=
  CW.draw (FSt w0 I L) plan hm hp ⟨I, Imm.le.refl I, hst.draw⟩ (h _ hst.draw)
end Go.Proofs.YtadgbifmiooikaaGreatX
namespace Go.Proofs.YtadgbifmiooikaaGreatX
set_option linter.unusedVariables false
set_option linter.unusedSimpArgs false
open Go Go.RowKit
variable {w0 w : World} {I : Imm} {L : Own} {P : Program} {l : Env} {ty : TypeId} {N : Nat}
def ResOk (P : Program) (l : Env) (w : World) : ResultVar → Value → Prop
  | .tmp t, v => l.get t = some v
  | .cell t T, v => ∃ a, l.get t = some (.pointer (some a)) ∧ (loadVar T a).run P w = .ok v w
def ResAll (P : Program) (l : Env) (w : World) : List ResultVar → List Value → Prop
  | [], [] => True
  | r :: rs, v :: vs => ResOk P l w r v ∧ ResAll P l w rs vs
  | _, _ => False
def resVal (tmps : Array Value) : ResultVar → Sem Value
  | .tmp t => pure (tmps.getD t undef)
  | .cell a t => do loadVar t (← asAddr (tmps.getD a undef))
theorem results_eq (fn : Func) (tmps : Array Value) : results fn tmps = (do
    let vs ← fn.results.mapM (resVal tmps)
    pure (if h : vs.size = 1 then vs[0] else .tuple vs)) := by
  unfold results
  congr 1
theorem resVal_ok {a : Act} (ha : l.on N a) {r : ResultVar} {v : Value} (h : ResOk P l w r v) : (resVal a.tmps r).run P w = .ok v w := by
  cases r with
  | tmp t => simp only [resVal, ha.2.2 t v h]; rfl
  | cell t T =>
    obtain ⟨ad, h4, h5⟩ := h
    simp only [resVal, ha.2.2 t _ h4, asAddr]
    exact h5
theorem resVals_ok {a : Act} (ha : l.on N a) : ∀ (rs : List ResultVar) (vs : List Value), ResAll P l w rs vs → (rs.mapM (resVal a.tmps)).run P w = .ok vs w
  | [], [], _ => rfl
  | [], _ :: _, h => h.elim
  | _ :: _, [], h => h.elim
  | r :: rs, v :: vs, h => by
    rw [List.mapM_cons]
    simp only [Sem.run_bind, resVal_ok ha h.1, Result.andThen, resVals_ok ha rs vs h.2]
    rfl
theorem AQ.retL {fn : Func} {R : Ending → World → Prop} {rs : List ResultVar} {vs : List Value} (hr : fn.results = rs.toArray) (hv : ResAll P l w rs vs) (hlen : vs.length ≠ 1) (h : R (.returned (.tuple vs.toArray)) w) : AQ N (bodyPost P fn R) .ret l w := fun a ha => by
  refine ⟨ha.2.1, .tuple vs.toArray, ?_, h⟩; have h6 := resVals_ok ha rs vs hv; rw [results_eq, hr, List.mapM_toArray]
  have h7 : (List.toArray <$> rs.mapM (resVal a.tmps) : Sem (Array Value)).run P w = .ok vs.toArray w := by
    rw [map_eq_pure_bind, Sem.run_bind, h6]; rfl
  rw [Sem.run_bind, h7]
  simp [hlen, pure, Sem.run, Result.andThen]
theorem AQ.retS {fn : Func} {R : Ending → World → Prop} {t : Tmp} {T : TypeId} {v : Value} {a : Addr} (hr : fn.results = #[.cell t T]) (ht : l.get t = some (.pointer (some a))) (hv : (loadVar T a).run P w = .ok v w) (h : R (.returned v) w) : AQ N (bodyPost P fn R) .ret l w := fun ac ha => by
  refine ⟨ha.2.1, v, ?_, h⟩; have h6 := resVals_ok (P := P) (w := w) ha [.cell t T] [v] ⟨⟨a, ht, hv⟩, trivial⟩; rw [results_eq, hr, show (#[ResultVar.cell t T] : Array ResultVar) = [ResultVar.cell t T].toArray from rfl, List.mapM_toArray]
  have h7 : (List.toArray <$> [ResultVar.cell t T].mapM (resVal ac.tmps) : Sem (Array Value)).run P w = .ok [v].toArray w := by
    rw [map_eq_pure_bind, Sem.run_bind, h6]; rfl
  rw [Sem.run_bind, h7]
  simp [pure, Sem.run, Result.andThen]
theorem St.loadO (hst : St w0 w I L) {S : TypeId} {z : Value} {n bytes : Nat} {k b off : Nat} {cs : Array Value} {T : TypeId} {fz : Nat × Nat} (hT : isAggT P S = true) (ht : TI P S z n bytes)
    (hL : L[k]? = some (b, .cells cs T fz)) (hn : ((cs.toList.drop off).take n).length = n) : (loadVar S ⟨b, off, none⟩).run P w = .ok (.agg ((cs.toList.drop off).take n).toArray) w := by
  have h1 := run_loadCells_list (P := P) w ⟨b, off, none⟩ ((cs.toList.drop off).take n) (hst.cells_own hL (by rw [hn])); rw [hn] at h1; unfold loadVar
  simp only [Sem.run_bind, run_isAgg hT, Result.andThen, if_true, ht.run_size, h1]
  rfl
theorem FSt.load1 {x : Operand} {T : TypeId} {a : Addr} {v : Value} (hT : isScalar P T = true) (h : ev l x = some (.pointer (some a))) (hc : I.cell? a = some v) : ∀ w', FSt w0 I L w' → Runs P (.load T x) ty l w' (.value v) w' :=
  fun w' ⟨I', hI', hst'⟩ => runs_load1 hT h (hst'.cell_imm (hI'.cell hc))
theorem FSt.load1_own {x : Operand} {S : TypeId} {k b off : Nat} {cs : Array Value} {T : TypeId} {fz : Nat × Nat} {v : Value} (hT : isScalar P S = true) (h : ev l x = some (.pointer (some ⟨b, off, none⟩))) (hL : L[k]? = some (b, .cells cs T fz)) (hi : cs[off]? = some v) :
    ∀ w', FSt w0 I L w' → Runs P (.load S x) ty l w' (.value v) w' :=
  fun w' ⟨I', hI', hst'⟩ => runs_load1 hT h (hst'.cell_own hL hi)
theorem FSt.loadO {x : Operand} {S : TypeId} {z : Value} {n bytes : Nat} {k b off : Nat} {cs : Array Value} {T : TypeId} {fz : Nat × Nat} (hT : isAggT P S = true) (ht : TI P S z n bytes) (h : ev l x = some (.pointer (some ⟨b, off, none⟩)))
    (hL : L[k]? = some (b, .cells cs T fz)) (hn : ((cs.toList.drop off).take n).length = n) : ∀ w', FSt w0 I L w' → Runs P (.load S x) ty l w' (.value (.agg ((cs.toList.drop off).take n).toArray)) w' :=
  fun w' ⟨I', hI', hst'⟩ => runs_loadO hT ht h hst' hL hn
theorem FSt.string {s d e : TypeId} {x : Operand} {v : Value} {bs : List UInt8} (hs : P.underlying s = some (.slice e)) (he : P.underlying e = some (.int .u8)) (hd : P.underlying d = some .string) (hx : ev l x = some v) (hr : RdB I v bs) :
    ∀ w', FSt w0 I L w' → Runs P (.convert s d x) ty l w' (.value (.string (strOf bs))) w' :=
  fun w' ⟨I', hI', hst'⟩ => RdB.string hs he hd hx (hr.mono hI') hst'
def vcells : Value → List Value
  | .agg cs => cs.toList
  | v => [v]
def bfill (places : Nat → Option (Nat × Nat)) : List Value → List (Nat × Value) → Option (List Value)
  | cs, [] => some cs
  | cs, (i, v) :: r => match places i with
    | none => none
    | some (off, size) => if (vcells v).length = size ∧ off + size ≤ cs.length then bfill places (cs.take off ++ vcells v ++ cs.drop (off + size)) r else none
theorem set_many (vs : List Value) : ∀ (k off : Nat) (cs : Array Value), off + k + vs.length ≤ cs.size →
    (vs.zipIdx k).foldl (fun (c : Array Value) (p : Value × Nat) => c.setIfInBounds (off + p.2) p.1) cs = (cs.toList.take (off + k) ++ vs ++ cs.toList.drop (off + k + vs.length)).toArray := by
  induction vs with
  | nil => intro k off cs _; simp
  | cons v r ih =>
    intro k off cs hle
    simp only [List.length_cons] at hle
    rw [List.zipIdx_cons, List.foldl_cons, ih (k + 1) off _ (by rw [Array.size_setIfInBounds]; omega)]
    congr 1
    rw [Array.toList_setIfInBounds]
    have hlen : off + k < cs.toList.length := by simp; omega
    rw [List.set_eq_take_append_cons_drop, if_pos hlen]
    have ht : (cs.toList.take (off + k)).length = off + k := by rw [List.length_take]; omega
    rw [List.take_append, List.drop_append, ht]
    have e1 : off + (k + 1) - (off + k) = 1 := by omega
    have e2 : off + (k + 1) + r.length - (off + k) = r.length + 1 := by omega
    rw [e1, e2, List.take_of_length_le (l := cs.toList.take (off + k)) (by omega), drop_nil_of (l := cs.toList.take (off + k)) (by omega)]
    simp only [List.take_succ_cons, List.take_zero, List.nil_append, List.drop_succ_cons, List.drop_drop, List.length_cons, List.append_assoc, List.cons_append]
    rw [show off + k + (r.length + 1) = off + k + 1 + r.length from by omega]
theorem vcells_eq (v : Value) : vcells v = v.cells.toList := by cases v <;> rfl
theorem fill_of {places : Nat → Option (Nat × Nat)} : ∀ {parts : List (Nat × Value)} {cs r : List Value}, bfill places cs parts = some r → Instr.fill places cs.toArray parts = some r.toArray
  | [], cs, r, h => by simp [bfill] at h; subst h; rfl
  | (i, v) :: rest, cs, r, h => by
    unfold bfill at h; unfold Instr.fill
    cases hp : places i with
    | none => simp [hp] at h
    | some q =>
      obtain ⟨off, size⟩ := q
      simp only [hp] at h ⊢
      split at h
      · rename_i hc
        rw [vcells_eq] at hc h
        have h1 : v.cells.size = size := by rw [← hc.1]; simp
        have h2 : ¬ ((v.cells.size ≠ size || off + v.cells.size > cs.toArray.size) = true) := by
          simp [h1]; omega
        rw [if_neg h2]; have h3 := set_many v.cells.toList 0 off cs.toArray (by simp only [Nat.add_zero, List.size_toArray]; have := hc.2; rw [hc.1]; omega)
        have h4 : (v.cells.zipIdx.foldl (fun (c : Array Value) (p : Value × Nat) => c.setIfInBounds (off + p.2) p.1) cs.toArray) = (v.cells.toList.zipIdx 0).foldl (fun (c : Array Value) (p : Value × Nat) => c.setIfInBounds (off + p.2) p.1) cs.toArray := by
          rw [← Array.foldl_toList, Array.toList_zipIdx]
        have h5 : (v.cells.zipIdx.foldl (fun cs (x : Value × Nat) => match x with | (c, j) => cs.setIfInBounds (off + j) c) cs.toArray) = (cs.take off ++ v.cells.toList ++ cs.drop (off + size)).toArray := by
          refine (Eq.trans ?_ h4).trans (h3.trans ?_)
          · rfl
          · simp only [Nat.add_zero, hc.1]
        rw [h5]; exact fill_of h
      · cases h
def BZ (P : Program) (t : TypeId) (zc : List Value) (places : List (Nat × Nat)) : Prop :=
  (match P.info? t, P.underlying t with
   | some it, some (.struct fields) => (it.zero.map (·.cells.toList), fields.toList.mapM (fun f => (P.info? f.type).map fun i => (f.offset, i.size)))
   | _, _ => (none, none)) = (some zc, some places)
theorem BZ.built {t : TypeId} {zc : List Value} {places : List (Nat × Nat)} (h : BZ P t zc places) {parts : List (Nat × Value)} {cells : List Value} (hf : bfill (places[·]?) zc parts = some cells) : P.built t parts = some cells.toArray := by
  unfold BZ at h; unfold Program.built
  cases hi : P.info? t with
  | none => simp [hi] at h
  | some it => cases hu : P.underlying t with
    | none => simp [hi, hu] at h
    | some d =>
      simp only [hi, hu] at h
      cases d <;> simp at h
      rename_i fields
      obtain ⟨⟨z, hz, hzc⟩, hm⟩ := h
      have hm' : (fields.toList.mapM fun f => (P.info? f.type).map fun i => (f.offset, i.size)) = some places := by simpa using hm
      simp only [hz, hm']
      have h1 := fill_of hf; rw [← hzc] at h1
      simpa using h1
theorem runs_buildF {t : TypeId} {parts : List (Nat × Operand)} {vs : List (Nat × Value)} {xs : List Value} {is_ : List Nat} {cells : List Value} {zc : List Value} {places : List (Nat × Nat)} (hz : BZ P t zc places) (hv : evs l (parts.map (·.2)) = some xs) (hi : parts.map (·.1) = is_) (hvs : is_.zip xs = vs) (hlen : is_.length = xs.length) (hb : bfill (places[·]?) zc vs = some cells) :
    Runs P (.build t parts.toArray) ty l w (.value (.agg cells.toArray)) w := by
  subst hvs; have h1 : (is_.zip xs).map (·.1) = is_ := List.map_fst_zip (by omega); have h2 : (is_.zip xs).map (·.2) = xs := List.map_snd_zip (by omega); exact runs_build (vs := is_.zip xs) (by rw [h2]; exact hv) (by rw [h1]; exact hi) (hz.built hb)
theorem allOne {vs : List Value} (h : vs.all Value.oneCell' = true) : ∀ v ∈ vs, v.oneCell' = true := fun v hv => List.all_eq_true.1 h v hv
theorem runs_storeW {x y : Operand} {S : TypeId} {z : Value} {n bytes : Nat} {k b : Nat} {cs : Array Value} {T : TypeId} {fz : Nat × Nat} {vs : List Value} (ht : TI P S z n bytes) (hx : ev l x = some (.pointer (some ⟨b, 0, none⟩))) (hy : ev l y = some (.agg vs.toArray)) (hst : St w0 w I L)
    (hL : L[k]? = some (b, .cells cs T fz)) (hn : vs.length = n) (hsz : cs.size = n) (hfz : NoFz cs.size fz) (hv : vs.all Value.oneCell' = true) :
    ∃ w', Runs P (.store S x y) ty l w .skip w' ∧ St w0 w' I (L.set k (b, .cells vs.toArray T fz)) := by
  subst hn; obtain ⟨w', h1, h2⟩ := runs_storeA (ty := ty) ht hx hy hst hL (by omega) hfz (allOne hv); refine ⟨w', h1, ?_⟩
  have e : cs.toList.take 0 ++ vs ++ cs.toList.drop (0 + vs.length) = vs := by
    rw [List.drop_eq_nil_of_le (by simp; omega)]; simp
  rw [e] at h2; exact h2
theorem runs_storeP {x y : Operand} {S : TypeId} {z : Value} {n bytes : Nat} {k b off : Nat} {cs : Array Value} {T : TypeId} {fz : Nat × Nat} {vs : List Value} (ht : TI P S z n bytes) (hx : ev l x = some (.pointer (some ⟨b, off, none⟩))) (hy : ev l y = some (.agg vs.toArray)) (hst : St w0 w I L)
    (hL : L[k]? = some (b, .cells cs T fz)) (hn : vs.length = n) (hoff : Nat.ble (off + n) cs.size = true) (hfz : NoFz cs.size fz) (hv : vs.all Value.oneCell' = true) :
    ∃ w', Runs P (.store S x y) ty l w .skip w' ∧ St w0 w' I (L.set k (b, .cells (cs.toList.take off ++ vs ++ cs.toList.drop (off + vs.length)).toArray T fz)) := by
  subst hn; exact runs_storeA ht hx hy hst hL (by simpa using hoff) hfz (allOne hv)
theorem runs_store1P {x y : Operand} {S : TypeId} {z : Value} {bytes : Nat} {k b off : Nat} {cs : Array Value} {T : TypeId} {fz : Nat × Nat} {v : Value} (ht : TI P S z 1 bytes) (hx : ev l x = some (.pointer (some ⟨b, off, none⟩))) (hy : ev l y = some v) (hst : St w0 w I L)
    (hL : L[k]? = some (b, .cells cs T fz)) (hoff : Nat.blt off cs.size = true) (hfz : NoFz cs.size fz) (hv : v.oneCell' = true) :
    ∃ w', Runs P (.store S x y) ty l w .skip w' ∧ St w0 w' I (L.set k (b, .cells (cs.setIfInBounds off v) T fz)) := runs_store1 ht hx hy hst hL (by simpa [Nat.blt_eq] using hoff) hfz hv
theorem zm {P : Program} {N : Nat} {ops : Array Oper} {Q : Exit → Act → World → Prop} {rest : List Oper} {l : Env} {w : World} {d : Tmp} {ty : TypeId} {pos : String} {after : Array Edge} {x : Operand} {v : Value}
    (hd : Nat.blt d N = true) (hx : ev l x = some v) (h : RW P N ops Q rest ((d, v) :: l) w) : RW P N ops Q (⟨some d, .move x, ty, pos, after, none⟩ :: rest) l w := z1 hd (runs_move hx) h
theorem zS {P : Program} {N : Nat} {ops : Array Oper} {Q : Exit → Act → World → Prop} {rest : List Oper} {l : Env} {w : World} {d : Tmp} {ty : TypeId} {pos : String} {after : Array Edge} {x : Operand} {v : Value}
    (hd : Nat.blt d N = true) (hx : ev l x = some v) (h : RW P N ops Q rest ((d, v) :: l) w) : RW P N ops Q (⟨some d, .assign x, ty, pos, after, none⟩ :: rest) l w := z1 hd (runs_assign hx) h
theorem zt {P : Program} {N : Nat} {ops : Array Oper} {Q : Exit → Act → World → Prop} {rest : List Oper} {l : Env} {w : World} {d : Tmp} {ty : TypeId} {pos : String} {after : Array Edge} {c x y : Operand} {b : Bool} {v : Value}
    (hd : Nat.blt d N = true) (hc : ev l c = some (.bool b)) (hb : b = true) (hx : ev l x = some v) (h : RW P N ops Q rest ((d, v) :: l) w) : RW P N ops Q (⟨some d, .pick c x y, ty, pos, after, none⟩ :: rest) l w := z1 hd (runs_pick_true hc hb hx) h
theorem zn {P : Program} {N : Nat} {ops : Array Oper} {Q : Exit → Act → World → Prop} {rest : List Oper} {l : Env} {w : World} {d : Tmp} {ty : TypeId} {pos : String} {after : Array Edge} {c x y : Operand} {b : Bool} {v : Value}
    (hd : Nat.blt d N = true) (hc : ev l c = some (.bool b)) (hb : b = false) (hx : ev l y = some v) (h : RW P N ops Q rest ((d, v) :: l) w) : RW P N ops Q (⟨some d, .pick c x y, ty, pos, after, none⟩ :: rest) l w := z1 hd (runs_pick_false hc hb hx) h
theorem zx {P : Program} {N : Nat} {ops : Array Oper} {Q : Exit → Act → World → Prop} {rest : List Oper} {l : Env} {w : World} {d : Tmp} {ty : TypeId} {pos : String} {after : Array Edge} {x : Operand} {k : Nat} {vs : List Value} {v : Value}
    (hd : Nat.blt d N = true) (hx : ev l x = some (.tuple vs.toArray)) (hk : vs[k]? = some v) (h : RW P N ops Q rest ((d, v) :: l) w) : RW P N ops Q (⟨some d, .extract x k, ty, pos, after, none⟩ :: rest) l w := z1 hd (runs_extract hx hk) h
theorem zl {P : Program} {N : Nat} {ops : Array Oper} {Q : Exit → Act → World → Prop} {rest : List Oper} {l : Env} {w w0 : World} {I : Imm} {L : Own} {d : Tmp} {ty : TypeId} {pos : String} {after : Array Edge} {x : Operand} {S T : TypeId} (k : Nat) {b off : Nat} {cs : Array Value} {fz : Nat × Nat} {v : Value}
    (hd : Nat.blt d N = true) (hT : isScalar P S = true) (hx : ev l x = some (.pointer (some ⟨b, off, none⟩))) (hst : St w0 w I L) (hL : L[k]? = some (b, .cells cs T fz)) (hi : cs[off]? = some v) (h : RW P N ops Q rest ((d, v) :: l) w) :
    RW P N ops Q (⟨some d, .load S x, ty, pos, after, none⟩ :: rest) l w := z1 hd (runs_load1 hT hx (hst.cell_own hL hi)) h
theorem zp {P : Program} {N : Nat} {ops : Array Oper} {Q : Exit → Act → World → Prop} {rest : List Oper} {l : Env} {w : World} {d : Tmp} {ty : TypeId} {pos : String} {after : Array Edge} {x : Operand} {s f b off : Nat} {fields : Array Field} {fd : Field} {z : Value} {size bytes : Nat}
    (hd : Nat.blt d N = true) (hx : ev l x = some (.pointer (some ⟨b, off, none⟩))) (hs : P.underlying s = some (.struct fields)) (hf : fields[f]? = some fd) (ht : TI P fd.type z size bytes) (hz : Nat.beq size 0 = false)
    (h : RW P N ops Q rest ((d, .pointer (some ⟨b, off + fd.offset, none⟩)) :: l) w) : RW P N ops Q (⟨some d, .fieldAddr s x f, ty, pos, after, none⟩ :: rest) l w := z1 hd (runs_fieldAddr0 hx hs hf ht (Nat.ne_of_beq_eq_false hz)) h
theorem zy {P : Program} {N : Nat} {ops : Array Oper} {Q : Exit → Act → World → Prop} {rest : List Oper} {l : Env} {w w0 : World} {I : Imm} {L : Own} {ty : TypeId} {pos : String} {after : Array Edge} {x y : Operand} {S T : TypeId} {z : Value} {bytes : Nat} (k : Nat) {b off : Nat} {cs : Array Value} {v : Value}
    (ht : TI P S z 1 bytes) (hx : ev l x = some (.pointer (some ⟨b, off, none⟩))) (hy : ev l y = some v) (hst : St w0 w I L) (hL : L[k]? = some (b, .cells cs T (0, 0))) (hoff : Nat.blt off cs.size = true) (hv : v.oneCell' = true)
    (h : ∀ w', St w0 w' I (L.set k (b, .cells (cs.setIfInBounds off v) T (0, 0))) → RW P N ops Q rest l w') : RW P N ops Q (⟨none, .store S x y, ty, pos, after, none⟩ :: rest) l w := z0 (runs_store1P ht hx hy hst hL hoff (NoFz.zero _) hv) h
theorem zw {P : Program} {N : Nat} {ops : Array Oper} {Q : Exit → Act → World → Prop} {rest : List Oper} {l : Env} {w w0 : World} {I : Imm} {L : Own} {ty : TypeId} {pos : String} {after : Array Edge} {x y : Operand} {S T : TypeId} {z : Value} {n bytes : Nat} (k : Nat) {b : Nat} {cs : Array Value} {vs : List Value}
    (ht : TI P S z n bytes) (hx : ev l x = some (.pointer (some ⟨b, 0, none⟩))) (hy : ev l y = some (.agg vs.toArray)) (hst : St w0 w I L) (hL : L[k]? = some (b, .cells cs T (0, 0))) (hn : vs.length = n) (hsz : cs.size = n) (hv : vs.all Value.oneCell' = true)
    (h : ∀ w', St w0 w' I (L.set k (b, .cells vs.toArray T (0, 0))) → RW P N ops Q rest l w') : RW P N ops Q (⟨none, .store S x y, ty, pos, after, none⟩ :: rest) l w := z0 (runs_storeW ht hx hy hst hL hn hsz (NoFz.zero _) hv) h
theorem ym {P : Program} {N : Nat} {ops : Array Oper} {F : World → Prop} {Qn : Act → World → Prop} {plan : Plan} {l : Env} {w : World} {i d : Nat} {ty : TypeId} {pos : String} {after : Array Edge} {x : Operand} {v : Value}
    (ho : ops[i]? = some ⟨some d, .move x, ty, pos, after, none⟩) (hd : Nat.blt d N = true) (hx : ev l x = some v) (h : DRW P N ops F Qn plan ((d, v) :: l) w) : DRW P N ops F Qn (.q i plan) l w := DRW.q ho hd (fun _ _ => runs_move hx) h
theorem yS {P : Program} {N : Nat} {ops : Array Oper} {F : World → Prop} {Qn : Act → World → Prop} {plan : Plan} {l : Env} {w : World} {i d : Nat} {ty : TypeId} {pos : String} {after : Array Edge} {x : Operand} {v : Value}
    (ho : ops[i]? = some ⟨some d, .assign x, ty, pos, after, none⟩) (hd : Nat.blt d N = true) (hx : ev l x = some v) (h : DRW P N ops F Qn plan ((d, v) :: l) w) : DRW P N ops F Qn (.q i plan) l w := DRW.q ho hd (fun _ _ => runs_assign hx) h
theorem yc {P : Program} {N : Nat} {ops : Array Oper} {F : World → Prop} {Qn : Act → World → Prop} {plan : Plan} {l : Env} {w : World} {i d : Nat} {ty : TypeId} {pos : String} {after : Array Edge} {x : Operand} {a : Addr}
    (ho : ops[i]? = some ⟨some d, .nilCheck x, ty, pos, after, none⟩) (hd : Nat.blt d N = true) (hx : ev l x = some (.pointer (some a))) (h : DRW P N ops F Qn plan ((d, .pointer (some a)) :: l) w) : DRW P N ops F Qn (.q i plan) l w := DRW.q ho hd (fun _ _ => runs_nilCheck hx) h
theorem yp {P : Program} {N : Nat} {ops : Array Oper} {F : World → Prop} {Qn : Act → World → Prop} {plan : Plan} {l : Env} {w : World} {i d : Nat} {ty : TypeId} {pos : String} {after : Array Edge} {x : Operand} {s f b off : Nat} {fields : Array Field} {fd : Field} {z : Value} {size bytes : Nat}
    (ho : ops[i]? = some ⟨some d, .fieldAddr s x f, ty, pos, after, none⟩) (hd : Nat.blt d N = true) (hx : ev l x = some (.pointer (some ⟨b, off, none⟩))) (hs : P.underlying s = some (.struct fields)) (hf : fields[f]? = some fd) (ht : TI P fd.type z size bytes) (hz : Nat.beq size 0 = false)
    (h : DRW P N ops F Qn plan ((d, .pointer (some ⟨b, off + fd.offset, none⟩)) :: l) w) : DRW P N ops F Qn (.q i plan) l w := DRW.q ho hd (fun _ _ => runs_fieldAddr0 hx hs hf ht (Nat.ne_of_beq_eq_false hz)) h
theorem yl {P : Program} {N : Nat} {ops : Array Oper} {Qn : Act → World → Prop} {plan : Plan} {l : Env} {w w0 : World} {I : Imm} {L : Own} {i d : Nat} {ty : TypeId} {pos : String} {after : Array Edge} {x : Operand} {S T : TypeId} (k : Nat) {b off : Nat} {cs : Array Value} {fz : Nat × Nat} {v : Value}
    (ho : ops[i]? = some ⟨some d, .load S x, ty, pos, after, none⟩) (hd : Nat.blt d N = true) (hT : isScalar P S = true) (hx : ev l x = some (.pointer (some ⟨b, off, none⟩))) (hL : L[k]? = some (b, .cells cs T fz)) (hi : cs[off]? = some v)
    (h : DRW P N ops (FSt w0 I L) Qn plan ((d, v) :: l) w) : DRW P N ops (FSt w0 I L) Qn (.q i plan) l w := DRW.q ho hd (FSt.load1_own hT hx hL hi) h
theorem zN {P : Program} {N : Nat} {ops : Array Oper} {Q Q' : Exit → Act → World → Prop} {l : Env} {w : World} {id : Nat} {os : List Oper} {y : Code} (h : RW P N os.toArray (Exit.then (fun a w => y.wp P Q a w) Q) os l w) :
    RW P N ops (Exit.then (fun a w => (Code.seq (.region id os.toArray false) y).wp P Q a w) Q') [] l w := zd (za (zk (zg h)))
theorem zM {P : Program} {N : Nat} {ops : Array Oper} {Q Q' : Exit → Act → World → Prop} {l : Env} {w : World} {y : Code} (h : CW P N Q y l w) : RW P N ops (Exit.then (fun a w => y.wp P Q a w) Q') [] l w := zd (za h)
theorem zR {P : Program} {N : Nat} {Q : Exit → Act → World → Prop} {l : Env} {w : World} {id : Nat} {os : List Oper} {y : Code} (h : RW P N os.toArray (Exit.then (fun a w => y.wp P Q a w) Q) os l w) : CW P N Q (.seq (.region id os.toArray false) y) l w := zk (zg h)
theorem zG {P : Program} {N : Nat} {ops : Array Oper} {Q : Exit → Act → World → Prop} {rest : List Oper} {l : Env} {w : World} {d d' g t : Nat} {o o' : Op} {ty ty' : TypeId} {pos pos' : String} {after after' : Array Edge} {want b : Bool}
    (ht : (ops[g]?).bind (·.dst) = some t) (hv : l.get t = some (.bool b)) (htN : Nat.blt t N = true) (hd : Nat.blt d N = true) (hd' : Nat.blt d' N = true) (hv' : Env.get ((d, undef) :: l) t = some (.bool b)) (hb : b = !want)
    (h : RW P N ops Q rest ((d', undef) :: (d, undef) :: l) w) : RW P N ops Q (⟨some d, o, ty, pos, after, some (g, want)⟩ :: ⟨some d', o', ty', pos', after', some (g, want)⟩ :: rest) l w :=
  zf ht hv htN hd hb (zf ht hv' htN hd' hb h)
theorem zH {P : Program} {N : Nat} {ops : Array Oper} {Q : Exit → Act → World → Prop} {rest : List Oper} {l : Env} {w : World} {d d' e g t : Nat} {o o' p : Op} {ty ty' tz : TypeId} {pos pos' po : String} {after after' af : Array Edge} {want b : Bool}
    (ht : (ops[g]?).bind (·.dst) = some t) (hv : l.get t = some (.bool b)) (htN : Nat.blt t N = true) (hd : Nat.blt d N = true) (hd' : Nat.blt d' N = true) (he : Nat.blt e N = true) (hv' : Env.get ((d', undef) :: (d, undef) :: l) t = some (.bool b)) (hv2 : Env.get ((d, undef) :: l) t = some (.bool b)) (hb : b = !want)
    (h : RW P N ops Q rest ((e, undef) :: (d', undef) :: (d, undef) :: l) w) : RW P N ops Q (⟨some d, o, ty, pos, after, some (g, want)⟩ :: ⟨some d', o', ty', pos', after', some (g, want)⟩ :: ⟨some e, p, tz, po, af, some (g, want)⟩ :: rest) l w :=
  zf ht hv htN hd hb (zf ht hv2 htN hd' hb (zf ht hv' htN he hb h))
theorem dY (p : Prop) [Decidable p] : (decide p = true) = p := decide_eq_true_eq
theorem dF {p : Prop} [Decidable p] : decide p = false ↔ ¬p := decide_eq_false_iff_not
theorem sZ {α : Type} {x : α} {l : List α} {a : α} : (x :: l).set 0 a = a :: l := rfl
theorem sS {α : Type} {x : α} {l : List α} {n : Nat} {a : α} : (x :: l).set (n + 1) a = x :: l.set n a := rfl
theorem zA {α : Type} {x : α} {l : List α} {k : Nat} : (x :: l).zipIdx k = (x, k) :: l.zipIdx (k + 1) := rfl
theorem zB {α : Type} {k : Nat} : ([] : List α).zipIdx k = [] := rfl
theorem zC {α β : Type} {f : α → β} {x : α} {l : List α} : (x :: l).map f = f x :: l.map f := rfl
theorem zD {α β : Type} {f : α → β} : ([] : List α).map f = [] := rfl
theorem zE (n : Nat) : 0 + n = n := Nat.zero_add n
theorem runs_loadN {x : Operand} {S : TypeId} {z : Value} {n bytes : Nat} {k b off : Nat} {cs : Array Value} {T : TypeId} {fz : Nat × Nat} {vs : List Value} (hT : isAggT P S = true) (ht : TI P S z n bytes) (h : ev l x = some (.pointer (some ⟨b, off, none⟩))) (hst : St w0 w I L)
    (hL : L[k]? = some (b, .cells cs T fz)) (hv : (cs.toList.drop off).take n = vs) (hn : vs.length = n) : Runs P (.load S x) ty l w (.value (.agg vs.toArray)) w := by
  subst hv; exact runs_loadO hT ht h hst hL hn
theorem FSt.loadN {x : Operand} {S : TypeId} {z : Value} {n bytes : Nat} {k b off : Nat} {cs : Array Value} {T : TypeId} {fz : Nat × Nat} {vs : List Value} (hT : isAggT P S = true) (ht : TI P S z n bytes) (h : ev l x = some (.pointer (some ⟨b, off, none⟩)))
    (hL : L[k]? = some (b, .cells cs T fz)) (hv : (cs.toList.drop off).take n = vs) (hn : vs.length = n) : ∀ w', FSt w0 I L w' → Runs P (.load S x) ty l w' (.value (.agg vs.toArray)) w' := by
  subst hv; exact FSt.loadO hT ht h hL hn
theorem St.loadN (hst : St w0 w I L) {S : TypeId} {z : Value} {n bytes : Nat} {k b off : Nat} {cs : Array Value} {T : TypeId} {fz : Nat × Nat} {vs : List Value} (hT : isAggT P S = true) (ht : TI P S z n bytes)
    (hL : L[k]? = some (b, .cells cs T fz)) (hv : (cs.toList.drop off).take n = vs) (hn : vs.length = n) : (loadVar S ⟨b, off, none⟩).run P w = .ok (.agg vs.toArray) w := by
  subst hv; exact hst.loadO hT ht hL hn
end Go.Proofs.YtadgbifmiooikaaGreatX
namespace Go.Proofs.YtadgbifmiooikaaGreatX
set_option linter.unusedVariables false
set_option linter.unusedSimpArgs false
open Go Go.RowKit
variable {w0 w : World} {I : Imm} {L : Own} {P : Program} {l : Env} {ty : TypeId} {N : Nat}
def isI64 (P : Program) (t : TypeId) : Bool := match P.underlying t with
  | some (.int .i64) => true
  | _ => false
theorem isI64_of {t : TypeId} (h : isI64 P t = true) : P.underlying t = some (.int .i64) := by
  unfold isI64 at h
  split at h
  · assumption
  · cases h
def EZ (P : Program) (t : TypeId) (n : Nat) : Bool := match P.underlying t with
  | some (.struct fs) => !(P.stoodInHeld t) && !(P.eqGuardType P.depth t) && fs.toList.length == n && fs.toList.zipIdx.all fun (f, i) => f.name != "_" && f.offset == i && isI64 P f.type
  | _ => false
theorem run_partZ {t : TypeId} {cs : Array Value} {off : Nat} {v : Value} (ht : P.underlying t = some (.int .i64)) (h : cs[off]? = some v) : (part t cs off).run P w = .ok v w := by
  unfold part
  simp only [Sem.run_bind]
  have h1 : (isAgg t).run P w = .ok false w := by unfold isAgg; simp [Sem.run_bind, run_underlying ht, Result.andThen]
  rw [h1]
  simp only [Result.andThen, Bool.false_eq_true, if_false, h]
  rfl
theorem run_eqFieldsZ {d : Nat} : ∀ (fs : List Field) (k : Nat) (xs ys : List Int), (∀ p ∈ fs.zipIdx k, (p.1.name != "_" && p.1.offset == p.2 && isI64 P p.1.type) = true) → xs.length = k + fs.length → ys.length = k + fs.length →
    (Op.eqFields (d + 1) (xs.map fun n => Value.int .i64 n).toArray (ys.map fun n => Value.int .i64 n).toArray fs).run P w = .ok (decide (xs.drop k = ys.drop k)) w
  | [], k, xs, ys, _, h1, h2 => by
    have e1 : xs.drop k = [] := List.drop_eq_nil_of_le (by simp at h1; omega); have e2 : ys.drop k = [] := List.drop_eq_nil_of_le (by simp at h2; omega); rw [e1, e2]
    simp [Op.eqFields]
  | f :: fs, k, xs, ys, h, h1, h2 => by
    have h0 := h (f, k) (by simp [List.zipIdx_cons])
    simp only [Bool.and_eq_true, bne_iff_ne, ne_eq, beq_iff_eq] at h0
    obtain ⟨⟨hn, ho⟩, ht'⟩ := h0; have ht := isI64_of ht'
    simp only [List.length_cons] at h1 h2
    have hx : k < xs.length := by omega
    have hy : k < ys.length := by omega
    have ih := run_eqFieldsZ (d := d) fs (k + 1) xs ys (fun p hp => h p (by rw [List.zipIdx_cons]; exact List.mem_cons_of_mem _ hp)) (by omega) (by omega); have ha : (part f.type (xs.map fun n => Value.int .i64 n).toArray f.offset).run P w = .ok (.int .i64 xs[k]) w := run_partZ ht (by rw [ho]; simp [hx]); have hb : (part f.type (ys.map fun n => Value.int .i64 n).toArray f.offset).run P w = .ok (.int .i64 ys[k]) w := run_partZ ht (by rw [ho]; simp [hy]); rw [Op.eqFields]
    simp only [if_pos hn, Sem.run_bind, ha, hb, run_equalIn_int w d f.type .i64 .i64 _ _ ht, Result.andThen_ok]
    have e0 : (xs.drop k = ys.drop k) ↔ (xs[k] = ys[k] ∧ xs.drop (k + 1) = ys.drop (k + 1)) := by
      rw [List.drop_eq_getElem_cons hx, List.drop_eq_getElem_cons hy, List.cons.injEq]
    simp only [e0]
    by_cases he : xs[k] = ys[k]
    · simp only [he, beq_self_eq_true, if_true, true_and]
      exact ih
    · simp [he]
theorem run_eqZ {op : BinOp} {t t' : TypeId} {x y : Operand} {xs ys : List Int} {n : Nat} (ht : EZ P t n = true) (h1 : xs.length = n) (h2 : ys.length = n) :
    (Op.equalIn 10000 t (.agg (xs.map fun n => Value.int .i64 n).toArray) (.agg (ys.map fun n => Value.int .i64 n).toArray)).run P w = .ok (decide (xs = ys)) w ∧ P.eqGuardType P.depth t = false := by
  unfold EZ at ht
  cases hu : P.underlying t with
  | none => simp [hu] at ht
  | some d => cases d <;> simp only [hu] at ht <;> try (exact absurd ht (by decide))
              rename_i fs
              simp only [Bool.and_eq_true, Bool.not_eq_true', beq_iff_eq, List.all_eq_true] at ht
              obtain ⟨⟨⟨hp, hg⟩, hl⟩, hall⟩ := ht
              have hf : P.fieldsOf t = fs := by simp [Program.fieldsOf, hu]
              refine ⟨?_, hg⟩; rw [show (10000 : Nat) = 9999 + 1 from rfl, run_equalIn_struct (P := P) w 9999 t _ _ (by rw [hf]; exact hu) hp, hf]; have := run_eqFieldsZ (P := P) (w := w) (d := 9998) fs.toList 0 xs ys (fun p hp => by have := hall p hp; simpa using this) (by omega) (by omega)
              simpa using this
theorem runs_neZ {t t' : TypeId} {x y : Operand} {xs ys : List Int} {n : Nat} {us vs : Array Value} (ht : EZ P t n = true) (hx : ev l x = some (.agg us)) (hy : ev l y = some (.agg vs)) (hu : us = (xs.map fun n => Value.int .i64 n).toArray) (hv : vs = (ys.map fun n => Value.int .i64 n).toArray) (h1 : xs.length = n := by rfl) (h2 : ys.length = n := by rfl) :
    Runs P (.binOp .neq t x y t') ty l w (.value (.bool (!decide (xs = ys)))) w :=
  .of (fun ρ => do eqGuard .neq t x y (ρ x) (ρ y); binOp .neq t (ρ x) (ρ y)) (fun _ _ _ _ _ => rfl) fun ρ hρ => by
    subst hu hv; obtain ⟨h3, h4⟩ := run_eqZ (P := P) (w := w) (op := .neq) (t' := t') (x := x) (y := y) ht h1 h2
    simp only [hρ x _ hx, hρ y _ hy, Sem.run_bind, run_eqGuard_agg w .neq t x y _ _ h4, Result.andThen_ok, run_neq_struct, h3]
def RdR (I : Imm) (v : Value) (vs : List Value) (bss : List (List UInt8)) : Prop := RdL I 1 v vs.length vs ∧ vs.length = bss.length ∧ ∀ (i : Nat) (u : Value) (b : List UInt8), vs[i]? = some u → bss[i]? = some b → RdB I u b
theorem St.start (w : World) : St w w (fun b => w.heap[b]?) [] := ⟨rfl, rfl, rfl, fun _ _ h => h, fun p hp => absurd hp (List.not_mem_nil), fun p hp => absurd hp (List.not_mem_nil), List.nodup_nil⟩
theorem St.below {w w' : World} {I' : Imm} {L : Own} (h : St w w' I' L) (hI : Imm.le (fun b => w.heap[b]?) I') : Below w.heap.size w w' := by
  have hb : ∀ k, k < w.heap.size → w'.heap[k]? = w.heap[k]? := fun k hk => by
    have h1 : w.heap[k]? = some w.heap[k] := Array.getElem?_eq_getElem hk; rw [h1]; exact h.imm k _ (hI k _ h1)
  refine ⟨h.os, h.tape, h.out, ?_, hb⟩
  rcases Nat.lt_or_ge w'.heap.size w.heap.size with hlt | hge
  · have h1 := hb w'.heap.size hlt; rw [Array.getElem?_eq_none (Nat.le_refl _), Array.getElem?_eq_getElem hlt] at h1
    cases h1
  · exact hge
theorem wf_i64 {n : Int} (h : (Lit.int .i64 n).wf = true) : -9223372036854775808 ≤ n ∧ n ≤ 9223372036854775807 := by
  simp only [Lit.wf, Bool.and_eq_true, decide_eq_true_eq] at h
  exact h
theorem wf_u8 {n : Int} (h : (Lit.int .u8 n).wf = true) : 0 ≤ n ∧ n ≤ 255 := by
  simp only [Lit.wf, Bool.and_eq_true, decide_eq_true_eq] at h
  exact h
theorem b8_u8 {n : Int} (h : 0 ≤ n ∧ n ≤ 255) : b8 (u8 n) = .int .u8 n := by
  unfold b8; rw [u8_toNat]
  congr 1
  omega
theorem RdL.of_row {k : IntKind} {w : World} {a : Option Addr} {len cap : Nat} {zs : List Int} (h : (a = none ∧ len = 0 ∧ cap = 0 ∧ zs = []) ∨
    ∃ x, a = some x ∧ len ≤ cap ∧ cap ≤ Go.maxLen ∧ zs.length = cap ∧ (∀ i, i < zs.length → w.cell? (x.add i) = some (.int k (zs.getD i 0))) ∧ ∀ n ∈ zs, (Lit.int k n).wf = true) :
    RdL (fun b => w.heap[b]?) 1 (.slice a len cap) len ((zs.take len).map fun n => .int k n) ∧ (zs.take len).length = len ∧ len ≤ 9223372036854775807 := by
  rcases h with ⟨rfl, rfl, rfl, rfl⟩ | ⟨x, rfl, h1, h2, h3, h4, h5⟩
  · exact ⟨RdL.nil 1, rfl, by decide⟩
  · have hl : (zs.take len).length = len := by rw [List.length_take]; omega
    refine ⟨⟨by rw [List.length_map, hl, Nat.mul_one], fun u hu => ?_, some x, cap, rfl, h1, fun j u hj => ⟨x, rfl, ?_⟩⟩, hl, by unfold Go.maxLen at h2; omega⟩
    · obtain ⟨n, _, rfl⟩ := List.mem_map.1 hu; rfl
    · rw [List.getElem?_map] at hj
      cases hz : (zs.take len)[j]? with
      | none => rw [hz] at hj; cases hj
      | some n =>
        rw [hz] at hj; have hjl := (List.getElem?_eq_some_iff.1 hz).1
        have hj2 : j < zs.length := by omega
        have e : zs.getD j 0 = n := by
          rw [List.getElem?_take_of_lt (by omega)] at hz
          simp [List.getD_eq_getElem?_getD, hz]
        have h6 := h4 j hj2; rw [e] at h6
        cases hj
        exact h6
theorem RdB.of_row {w : World} {a : Option Addr} {len cap : Nat} {zs : List Int} (h : (a = none ∧ len = 0 ∧ cap = 0 ∧ zs = []) ∨
    ∃ x, a = some x ∧ len ≤ cap ∧ cap ≤ Go.maxLen ∧ zs.length = cap ∧ (∀ i, i < zs.length → w.cell? (x.add i) = some (.int .u8 (zs.getD i 0))) ∧ ∀ n ∈ zs, (Lit.int .u8 n).wf = true) :
    ∃ bs, RdB (fun b => w.heap[b]?) (.slice a len cap) bs ∧ bs.length ≤ 9223372036854775807 := by
  have hw : ∀ n ∈ zs, 0 ≤ n ∧ n ≤ 255 := by
    rcases h with ⟨_, _, _, rfl⟩ | ⟨_, _, _, _, _, _, h⟩
    · simp
    · exact fun n hn => wf_u8 (h n hn)
  obtain ⟨h1, h2, h3⟩ := RdL.of_row h; refine ⟨(zs.take len).map u8, ?_, by rw [List.length_map, h2]; exact h3⟩; unfold RdB; rw [List.length_map, h2, List.map_map]
  have e : (zs.take len).map (b8 ∘ u8) = (zs.take len).map fun n => Value.int .u8 n := List.map_congr_left fun n hn => b8_u8 (hw n (List.mem_of_mem_take hn))
  rw [e]; exact h1
theorem RdI.of_row {w : World} {a : Option Addr} {len cap : Nat} {zs : List Int} (h : (a = none ∧ len = 0 ∧ cap = 0 ∧ zs = []) ∨
    ∃ x, a = some x ∧ len ≤ cap ∧ cap ≤ Go.maxLen ∧ zs.length = cap ∧ (∀ i, i < zs.length → w.cell? (x.add i) = some (.int .i64 (zs.getD i 0))) ∧ ∀ n ∈ zs, (Lit.int .i64 n).wf = true) :
    ∃ xs, RdI (fun b => w.heap[b]?) (.slice a len cap) xs ∧ xs.length ≤ 9223372036854775807 ∧ ∀ n ∈ xs, -9223372036854775808 ≤ n ∧ n ≤ 9223372036854775807 := by
  have hw : ∀ n ∈ zs, -9223372036854775808 ≤ n ∧ n ≤ 9223372036854775807 := by
    rcases h with ⟨_, _, _, rfl⟩ | ⟨_, _, _, _, _, _, h⟩
    · simp
    · exact fun n hn => wf_i64 (h n hn)
  obtain ⟨h1, h2, h3⟩ := RdL.of_row h; refine ⟨zs.take len, ?_, by rw [h2]; exact h3, fun n hn => hw n (List.mem_of_mem_take hn)⟩; unfold RdI; rw [h2]; exact h1
end Go.Proofs.YtadgbifmiooikaaGreatX
namespace Go.Proofs.YtadgbifmiooikaaGreatX
set_option linter.unusedVariables false
set_option linter.unusedSimpArgs false
open Go Go.RowKit
variable {w0 w : World} {I : Imm} {L : Own} {P : Program} {l : Env} {ty : TypeId} {N : Nat}
def Imm.del (I : Imm) (b : Nat) : Imm := fun k => if k = b then none else I k
theorem Grow.slice_h {t e e' : TypeId} {x y' : Operand} {v : Value} {n : Nat} {xs : List Value} {Lv : Own} {k' : IntKind} {hi : Int} {z : Value} {size bytes : Nat} (ht : P.underlying t = some (.slice e)) (he : TI P e z size bytes) (hx : ev l x = some v)
    (hy' : ev l y' = some (.int k' hi)) (hg : Grow e' size v n xs Lv) (h : 0 ≤ hi ∧ hi ≤ n) : Runs P (.slice t x none (some y') none) ty l w (.value (Go.Proofs.YtadgbifmiooikaaGreatX.partV v 0 hi.toNat size)) w := by
  obtain ⟨_, _, ⟨rfl, rfl, _⟩ | ⟨g, cap, cur, rfl, _, h3, _⟩⟩ := hg
  · exact runs_slice_h ht he hx hy' (by omega)
  · exact runs_slice_h ht he hx hy' (by omega)
theorem Grow.take {e : TypeId} {size n : Nat} {v : Value} {xs : List Value} {Lv : Own} (hg : Grow e size v n xs Lv) {hi : Nat} (h : hi ≤ n) : Grow e size (Go.Proofs.YtadgbifmiooikaaGreatX.partV v 0 hi size) hi (xs.take (hi * size)) Lv := by
  obtain ⟨h1, h2, ⟨rfl, rfl, rfl⟩ | ⟨g, cap, cur, rfl, rfl, h3, h4, h5, h6⟩⟩ := hg
  · have : hi = 0 := by omega
    subst this; have hx : xs = [] := List.eq_nil_of_length_eq_zero (by simpa using h1); subst hx; exact ⟨by simp, by simp, .inl ⟨by simp [Go.Proofs.YtadgbifmiooikaaGreatX.partV, sliced], rfl, rfl⟩⟩
  · have hle : hi * size ≤ n * size := Nat.mul_le_mul_right _ h; refine ⟨by rw [List.length_take, h1]; omega, fun u hu => h2 u (List.mem_of_mem_take hu), .inr ⟨g, cap, cur, ?_, rfl, by omega, h4, h5, ?_⟩⟩
    · unfold Go.Proofs.YtadgbifmiooikaaGreatX.partV sliced
      simp only [Nat.zero_mul, Nat.sub_zero, Option.map_some, add_lit, Nat.add_zero, ite_self]
    · rw [← h6, List.take_take, Nat.min_eq_left hle]
theorem GrowB.take {e : TypeId} {v : Value} {bs : List UInt8} {Lv : Own} (hg : GrowB e v bs Lv) {hi : Nat} (h : hi ≤ bs.length) : GrowB e (Go.Proofs.YtadgbifmiooikaaGreatX.partV v 0 hi 1) (bs.take hi) Lv := by
  have := Grow.take hg h; rw [Nat.mul_one] at this; unfold GrowB; rw [List.map_take, show (bs.take hi).length = hi by rw [List.length_take]; omega]; exact this
theorem RdL.one {size n : Nat} {v : Value} {xs : List Value} (h : RdL I size v n xs) : v.oneCell' = true := by
  obtain ⟨_, _, A, cap, rfl, _⟩ := h
  rfl
theorem RdR.at {v : Value} {vs : List Value} {bss : List (List UInt8)} {i : Int} (h : RdR I v vs bss) (h0 : 0 ≤ i) (h1 : i < vs.length) : I.cell? (slPtr v (i.toNat * 1)) = some (vs.getD i.toNat (.slice none 0 0)) := by
  refine RdL.cell h.1 ?_
  have : i.toNat < vs.length := by omega
  simp [this]
theorem RdR.row {v : Value} {vs : List Value} {bss : List (List UInt8)} (h : RdR I v vs bss) {i : Nat} (h1 : i < vs.length) : RdB I (vs.getD i (.slice none 0 0)) (bss.getD i []) := by
  have h2 : i < bss.length := by rw [← h.2.1]; exact h1
  exact h.2.2 i _ _ (by simp [h1]) (by simp [h2])
theorem RdR.mono {I' : Imm} {v : Value} {vs : List Value} {bss : List (List UInt8)} (h : RdR I v vs bss) (hI : I.le I') : RdR I' v vs bss :=
  ⟨RdL.mono hI h.1, h.2.1, fun i u b h1 h2 => RdL.mono hI (h.2.2 i u b h1 h2)⟩
theorem bfill_range (size : Nat) : ∀ (xs : List Value) (k : Nat) (pre post : List Value), pre.length = k * size → post.length = xs.length * size → (∀ x ∈ xs, (vcells x).length = size) →
    bfill (fun i => some (i * size, size)) (pre ++ post) ((List.range' k xs.length).zip xs) = some (pre ++ xs.flatMap vcells)
  | [], k, pre, post, h1, h2, h3 => by
    have : post = [] := List.eq_nil_of_length_eq_zero (by simpa using h2); subst this
    simp [bfill]
  | x :: r, k, pre, post, h1, h2, h3 => by
    simp only [List.length_cons, Nat.add_mul, Nat.one_mul] at h2
    have hx := h3 x (List.mem_cons_self ..); rw [List.length_cons, List.range'_succ, List.zip_cons_cons]; unfold bfill
    simp only []
    rw [if_pos ⟨hx, by rw [List.length_append]; omega⟩]
    have e1 : (pre ++ post).take (k * size) = pre := by rw [← h1, List.take_left]
    have e2 : (pre ++ post).drop (k * size + size) = post.drop size := by
      rw [List.drop_append, List.drop_eq_nil_of_le (by omega), List.nil_append, h1]
      congr 1; omega
    rw [e1, e2, bfill_range size r (k + 1) (pre ++ vcells x) (post.drop size) (by rw [List.length_append, hx, h1, Nat.add_mul, Nat.one_mul]) (by rw [List.length_drop]; omega) (fun y hy => h3 y (List.mem_cons_of_mem _ hy))]
    simp
theorem runs_litF {t e : TypeId} {z : Value} {size bytes n : Nat} {parts : List (Nat × Operand)} {xs : List Value} (ht : P.underlying t = some (.slice e)) (he : TI P e z size bytes) (hn : n * size ≤ 16777216) (hv : evs l (parts.map (·.2)) = some xs) (hi : parts.map (·.1) = List.range n) (hlen : xs.length = n)
    (hsz : xs.all (fun x => (vcells x).length == size) = true) (hone : (xs.flatMap vcells).all Value.oneCell' = true) (hst : St w0 w I L) (hmax : n ≤ maxLen) :
    ∃ v w', Runs P (.buildSlice t n parts.toArray) ty l w (.value v) w' ∧ ∃ Lv, St w0 w' I (Lv ++ L) ∧ Grow e size v n (xs.flatMap vcells) Lv := by
  have hsz' : ∀ x ∈ xs, (vcells x).length = size := fun x hx => by simpa using List.all_eq_true.1 hsz x hx
  have hvs : ((List.range n).zip xs).map (·.2) = xs := List.map_snd_zip (by simp [hlen]); have his : ((List.range n).zip xs).map (·.1) = List.range n := List.map_fst_zip (by simp [hlen])
  have hcl : (xs.flatMap vcells).length = n * size := by
    rw [← hlen]; clear hv hi hlen hsz hone hvs his
    induction xs with
    | nil => simp
    | cons x r ih =>
      rw [List.flatMap_cons, List.length_append, hsz' x (List.mem_cons_self ..), ih (fun y hy => hsz' y (List.mem_cons_of_mem _ hy)), List.length_cons, Nat.add_mul, Nat.one_mul, Nat.add_comm]
  refine runs_buildSlice (vs := (List.range n).zip xs) ht he hn (by rw [hvs]; exact hv) (by rw [his]; exact hi) ?_ hst hcl (allOne hone) hmax; have h := bfill_range size xs 0 [] ((Array.range (n * size)).map ((if n * size = 0 then #[] else z.cells)[· % (if n * size = 0 then #[] else z.cells).size]!)).toList (by simp) (by simp [hlen]) hsz'; rw [List.nil_append, List.nil_append, ← List.range_eq_range', hlen] at h; have h2 := fill_of h; rw [Array.toArray_toList] at h2; exact h2
theorem getElem?_flat {α β : Type} {f : α → List β} {size : Nat} (hf : ∀ a, (f a).length = size) : ∀ (xs : List α) (k j : Nat), j < size → (xs.flatMap f)[k * size + j]? = xs[k]?.bind fun a => (f a)[j]?
  | [], k, j, _ => by simp
  | a :: r, 0, j, h => by
    rw [List.flatMap_cons, List.getElem?_append_left (by rw [hf]; omega)]
    simp
  | a :: r, k + 1, j, h => by
    rw [List.flatMap_cons, List.getElem?_append_right (by rw [hf, Nat.add_mul]; omega), hf, show (k + 1) * size + j - size = k * size + j by rw [Nat.add_mul]; omega, getElem?_flat hf r k j h]
    simp
theorem RdL.loadRow {x : Operand} {T : TypeId} {z : Value} {bytes n size i : Nat} {v : Value} {xs row : List Value} (hT : isAggT P T = true) (ht : TI P T z size bytes) (hx : ev l x = some (.pointer (some (slPtr v (i * size))))) (hr : RdL I size v n xs) (hst : St w0 w I L) (hlen : row.length = size)
    (hget : ∀ j u, row[j]? = some u → xs[i * size + j]? = some u) : Runs P (.load T x) ty l w (.value (.agg row.toArray)) w := by
  refine runs_loadA hT (by rw [hlen]; exact ht) hx fun j u hj => ?_
  have h1 := hst.cell_imm (hr.cell (hget j u hj)); obtain ⟨_, _, A, cap, rfl, _, h4⟩ := hr; obtain ⟨a, rfl, _⟩ := h4 _ u (hget j u hj)
  simp only [slPtr] at h1 ⊢
  rw [Addr.add_add]; exact h1
end Go.Proofs.YtadgbifmiooikaaGreatX
namespace Go.Proofs.YtadgbifmiooikaaGreatX
set_option linter.unusedVariables false
set_option linter.unusedSimpArgs false
open Go Go.RowKit Go.Lib
variable {w0 w : World} {I : Imm} {L : Own} {P : Program} {l : Env} {ty : TypeId} {N : Nat}
theorem runs_makeIface {t : TypeId} {x : Operand} {v : Value} (ht : P.concrete t = true) (hx : ev l x = some v) : Runs P (.makeInterface t x) ty l w (.value (.iface t v)) w :=
  .of (fun ρ => Instr.makeInterface t (ρ x)) (fun _ _ _ _ _ => rfl) fun ρ hρ => by
    rw [hρ x _ hx]; exact run_makeInterface w t v ht
def asV (a : TypeId) (z : Value) : Value → Value
  | .iface t u => if t = a then u else z
  | _ => z
def asB (a : TypeId) : Value → Bool
  | .iface t _ => t == a
  | _ => false
def assertOk (a : TypeId) (z v : Value) : Value := .tuple #[asV a z v, .bool (asB a v)]
def isIface : Value → Bool
  | .iface _ _ => true
  | .nilIface => true
  | _ => false
theorem runs_assertOk {t a : TypeId} {x : Operand} {v z : Value} {size bytes : Nat} (ha : P.concrete a = true) (hz : TI P a z size bytes) (hx : ev l x = some v) (hv : isIface v = true) : Runs P (.typeAssert x t a true) ty l w (.value (assertOk a z v)) w :=
  .of (fun ρ => Instr.typeAssert (ρ x) t a true) (fun _ _ _ _ _ => rfl) fun ρ hρ => by
    rw [hρ x _ hx]; unfold Program.concrete at ha; unfold Instr.typeAssert
    cases hu : P.underlying a with
    | none => simp [hu] at ha
    | some d =>
      cases d <;> simp only [hu, Bool.false_eq_true] at ha <;> cases v <;> simp only [isIface, Bool.false_eq_true] at hv <;>
        (simp only [Sem.run_bind, run_underlying hu, Result.andThen, if_true, hz.run_zero, assertOk, asV, asB]; first | rfl | (split <;> rename_i hta <;> simp [hta, hz.run_zero, Sem.run_bind, Result.andThen, Sem.run, pure]))
theorem strCells_b8 (s : ByteArray) : strCells s = s.toList.map b8 := by
  rw [ByteArray.toList_eq]
  rfl
theorem runs_appendS {t u e : TypeId} {x y : Operand} {v : Value} {s : ByteArray} {bs : List UInt8} {Lv : Own} (ht : P.underlying t = some (.slice e)) (he : TI P e (.int .u8 0) 1 1) (hu : P.underlying u = some .string) (hx : ev l x = some v) (hy : ev l y = some (.string s))
    (hst : St w0 w I (Lv ++ L)) (hg : GrowB e v bs Lv) (hb : bs.length + s.size ≤ 140737488355328) :
    ∃ v' w', Runs P (.call ⟨.builtin .append, #[x, y], #[t, u]⟩) ty l w (.value v') w' ∧ ∃ Lv', St w0 w' I (Lv' ++ L) ∧ GrowB e v' (bs ++ s.toList) Lv' := by
  have hbi : ∀ {v' w'}, (Builtin.append_ #[t, u] ty #[v, .string s]).run P w = .ok v' w' → Runs P (.call ⟨.builtin .append, #[x, y], #[t, u]⟩) ty l w (.value v') w' := fun {v' w'} h =>
    Runs.bi (args := [x, y]) (vs := [v, .string s]) (by simp [evs, hx, hy]) fun consts => by simp only [builtin, Sem.run_bind, h]; rfl
  obtain ⟨i, hi, hz, hs, hby⟩ := he.get
  have hsl : s.toList.length = s.size := by rw [ByteArray.toList_eq]; rfl
  have hlen : (bs ++ s.toList).length = bs.length + s.size := by rw [List.length_append, hsl]
  have hmap : (bs ++ s.toList).map b8 = bs.map b8 ++ strCells s := by rw [List.map_append, strCells_b8]
  have hmax : bs.length + s.size ≤ maxLen := by unfold maxLen; omega
  have mk : ∀ {v' : Value} {g cap : Nat} {cur : Array Value}, v' = .slice (some ⟨g, 0, none⟩) (bs.length + s.size) cap → bs.length + s.size ≤ cap → cap ≤ maxLen → cur.size = cap * 1 → cur.toList.take ((bs.length + s.size) * 1) = bs.map b8 ++ strCells s → GrowB e v' (bs ++ s.toList) [(g, .cells cur e)] := by
    intro v' g cap cur h1 h2 h3 h4 h5; have hone := b8_one (bs ++ s.toList); unfold GrowB; rw [hlen]; rw [hmap] at hone ⊢; exact ⟨by rw [List.length_append, strCells_length]; simp, hone, .inr ⟨g, cap, cur, h1, rfl, h2, h3, h4, h5⟩⟩
  obtain ⟨hxl, hxo, ⟨rfl, hb0, rfl⟩ | ⟨g, cap, cur, rfl, rfl, h3, h4, h5, h6⟩⟩ := hg
  · have hbs : bs = [] := List.eq_nil_of_length_eq_zero hb0; subst hbs; obtain ⟨v', w', h7, h8, h9, h10⟩ := run_append_own_string (P := P) w w.heap.size t u ty e i ht hu hi hz hs hby (.slice none 0 0) 0 [] ⟨by simp, .inl ⟨rfl, rfl⟩⟩ s (by simpa using hmax) (by simpa using hb) (Nat.le_refl _); obtain ⟨h11, ⟨e1, e2⟩ | ⟨g, cap, cur, rfl, hge, hheap, h12, h13, h14, h15⟩⟩ := h8
    · have : s.toList = [] := List.eq_nil_of_length_eq_zero (by omega); refine ⟨v', w', hbi h7, [], ?_, ?_⟩
      · exact hst.grown_none h9
      · rw [this, e1]; exact GrowB.nil e
    · exact ⟨_, w', hbi h7, _, hst.cons_new h9 hge hheap, mk (by simp) (by simpa using h12) h13 h14 (by simpa using h15)⟩
  · have hcs : cur.size = cap := by simpa using h5
    have htk : cur.toList.take bs.length = bs.map b8 := by simpa using h6
    have hmem : (g, Obj.cells cur e) ∈ ([(g, .cells cur e)] ++ L : Own) := by simp
    have hheap := hst.own _ hmem
    by_cases hroom : bs.length + s.size ≤ cap
    · have hr := run_append_room_string (P := P) (ty := ty) w t u e i ht hu hi hs g bs.length cap cur hheap s hroom (by omega); refine ⟨_, _, hbi hr, [(g, .cells (cur.toList.take bs.length ++ strCells s ++ cur.toList.drop (bs.length + s.size)).toArray e)], ?_, mk rfl hroom h4 ?_ ?_⟩
      · have := hst.put (k := 0) (b := g) (o := .cells cur e) (o' := .cells (cur.toList.take bs.length ++ strCells s ++ cur.toList.drop (bs.length + s.size)).toArray e) (w' := w.setRow g (cur.toList.take bs.length ++ strCells s ++ cur.toList.drop (bs.length + s.size)).toArray) rfl rfl rfl rfl (setRow_heap w g cur _ e _ hheap) (fun j hj hlt => setRow_other w g j _ hj)
        simpa using this
      · simp only [List.size_toArray, List.length_append, List.length_take, List.length_drop, Array.length_toList, strCells_length]
        omega
      · rw [htk]
        have : (bs.map b8 ++ strCells s).length = (bs.length + s.size) * 1 := by rw [List.length_append, strCells_length]; simp
        rw [← this]; exact List.take_left
    · have hold : ∀ j v, (bs.map b8)[j]? = some v → w.cell? ((⟨g, 0, none⟩ : Addr).add j) = some v := fun j v hj => by
        rw [add_lit, Nat.zero_add]; refine hst.cell_own (k := 0) rfl ?_; rw [← htk, List.getElem?_take] at hj
        split at hj
        · simpa using hj
        · cases hj
      have hfit := growslice_fits (show cap < bs.length + s.size by omega) (bytes := 1) (by omega); have hr := run_append_grow_string (P := P) (ty := ty) w t u e i (.int .u8 0) ht hu hi hz ⟨g, 0, none⟩ bs.length cap (bs.map b8) (by rw [hs]; simp) hold s (by omega) (by omega) (by rw [hby]; exact hfit); refine ⟨_, _, hbi hr, _, ((hst.sub (by simp)).drewN).heap_new _, mk rfl (grownCap_ge w _ cap e) (grownCap_le_maxLen w _ cap e hmax) ?_ ?_⟩
      · rw [zeroCells_b8]; have := grownCap_ge w (bs.length + s.size) cap e
        simp [strCells_length]
        omega
      · have : (bs.map b8 ++ strCells s).length = (bs.length + s.size) * 1 := by rw [List.length_append, strCells_length]; simp
        simp only [Array.toList_append, List.append_assoc]
        rw [← List.append_assoc, ← this]; exact List.take_left
def RdAll (I : Imm) : List Value → List (List UInt8) → Prop
  | [], [] => True
  | v :: vs, b :: bs => RdB I v b ∧ RdAll I vs bs
  | _, _ => False
theorem RdAll.get {I : Imm} : ∀ {vs : List Value} {bss : List (List UInt8)}, RdAll I vs bss → vs.length = bss.length ∧ ∀ (i : Nat) (u : Value) (b : List UInt8), vs[i]? = some u → bss[i]? = some b → RdB I u b
  | [], [], _ => ⟨rfl, fun i u b h => by simp at h⟩
  | [], _ :: _, h => h.elim
  | _ :: _, [], h => h.elim
  | v :: vs, c :: bs, h => by
    obtain ⟨h1, h2⟩ := RdAll.get h.2; refine ⟨by simp [h1], fun i u b hu hb => ?_⟩
    cases i with
    | zero => cases hu; cases hb; exact h.1
    | succ i => exact h2 i u b (by simpa using hu) (by simpa using hb)
theorem RdAll.one {I : Imm} {vs : List Value} {bss : List (List UInt8)} (h : RdAll I vs bss) : ∀ u ∈ vs, u.oneCell' = true := fun u hu => by
  obtain ⟨i, hi, rfl⟩ := List.getElem_of_mem hu; obtain ⟨h1, h2⟩ := h.get; exact (h2 i vs[i] (bss[i]'(by omega)) (by simp [hi]) (by simp)).one
theorem RdR.of_all {I : Imm} {v : Value} {n : Nat} {vs : List Value} {bss : List (List UInt8)} (h : RdL I 1 v n vs) (hn : vs.length = n) (ha : RdAll I vs bss) : RdR I v vs bss := by
  subst hn; exact ⟨h, ha.get.1, ha.get.2⟩
theorem take_map_range {α : Type} (f : Nat → α) (n k : Nat) (h : k < n) : ((List.range n).map f).take (k + 1) = ((List.range n).map f).take k ++ [f k] := by
  rw [List.take_add_one]
  simp [h]
theorem size_toList (s : ByteArray) : s.toList.length = s.size := by rw [ByteArray.toList_eq]; rfl
end Go.Proofs.YtadgbifmiooikaaGreatX
namespace Go.Proofs.YtadgbifmiooikaaGreatX
open Go Go.Proofs
set_option maxRecDepth 100000
theorem follows : Tryz.prog.follows .mixedOrders = true := by kernel_rfl
theorem sc2 : isScalar Tryz.prog 2 = true := by kernel_rfl
theorem ti3 : TI Tryz.prog 3 (.int .i64 0) 1 8 := by unfold TI; kernel_rfl
theorem sc3 : isScalar Tryz.prog 3 = true := by kernel_rfl
theorem ti4 : TI Tryz.prog 4 (.bool false) 1 1 := by unfold TI; kernel_rfl
theorem sc4 : isScalar Tryz.prog 4 = true := by kernel_rfl
theorem ti5 : TI Tryz.prog 5 (.int .u8 0) 1 1 := by unfold TI; kernel_rfl
theorem sc5 : isScalar Tryz.prog 5 = true := by kernel_rfl
theorem ti9 : TI Tryz.prog 9 (.string .empty) 1 16 := by unfold TI; kernel_rfl
theorem sc9 : isScalar Tryz.prog 9 = true := by kernel_rfl
theorem ti20 : TI Tryz.prog 20 .nilIface 1 16 := by unfold TI; kernel_rfl
theorem sc20 : isScalar Tryz.prog 20 = true := by kernel_rfl
theorem ti23 : TI Tryz.prog 23 (.pointer none) 1 8 := by unfold TI; kernel_rfl
theorem sc23 : isScalar Tryz.prog 23 = true := by kernel_rfl
theorem ti25 : TI Tryz.prog 25 (.int .i64 0) 1 8 := by unfold TI; kernel_rfl
theorem sc25 : isScalar Tryz.prog 25 = true := by kernel_rfl
theorem ti34 : TI Tryz.prog 34 (.slice none 0 0) 1 24 := by unfold TI; kernel_rfl
theorem sc34 : isScalar Tryz.prog 34 = true := by kernel_rfl
theorem ti36 : TI Tryz.prog 36 (.agg #[(.string .empty), (.string .empty), (.slice none 0 0), (.string .empty), (.int .i64 0), (.int .i64 0)]) 6 88 := by unfold TI; kernel_rfl
theorem ag36 : isAggT Tryz.prog 36 = true := by kernel_rfl
theorem bz36 : BZ Tryz.prog 36 [(.string .empty), (.string .empty), (.slice none 0 0), (.string .empty), (.int .i64 0), (.int .i64 0)] [(0, 1), (1, 1), (2, 1), (3, 1), (4, 1), (5, 1)] := by unfold BZ; kernel_rfl
theorem ti38 : TI Tryz.prog 38 (.agg #[(.string .empty), (.string .empty), (.int .i64 0)]) 3 40 := by unfold TI; kernel_rfl
theorem ag38 : isAggT Tryz.prog 38 = true := by kernel_rfl
theorem bz38 : BZ Tryz.prog 38 [(.string .empty), (.string .empty), (.int .i64 0)] [(0, 1), (1, 1), (2, 1)] := by unfold BZ; kernel_rfl
theorem ti40 : TI Tryz.prog 40 (.agg #[(.int .i64 0), (.int .i64 0), (.int .i64 0), (.string .empty), (.string .empty), (.string .empty), (.slice none 0 0), (.string .empty), (.int .i64 0), (.int .i64 0), (.string .empty), (.string .empty), (.int .i64 0), (.string .empty), (.string .empty), (.string .empty), (.int .i64 0), (.int .i64 0), (.int .i64 0), (.bool false), (.string .empty), (.string .empty), (.int .i64 0), (.int .i64 0), (.bool false)]) 25 304 := by unfold TI; kernel_rfl
theorem ag40 : isAggT Tryz.prog 40 = true := by kernel_rfl
theorem bz40 : BZ Tryz.prog 40 [(.int .i64 0), (.int .i64 0), (.int .i64 0), (.string .empty), (.string .empty), (.string .empty), (.slice none 0 0), (.string .empty), (.int .i64 0), (.int .i64 0), (.string .empty), (.string .empty), (.int .i64 0), (.string .empty), (.string .empty), (.string .empty), (.int .i64 0), (.int .i64 0), (.int .i64 0), (.bool false), (.string .empty), (.string .empty), (.int .i64 0), (.int .i64 0), (.bool false)] [(0, 1), (1, 1), (2, 1), (3, 1), (4, 6), (10, 3), (13, 1), (14, 1), (15, 1), (16, 1), (17, 1), (18, 1), (19, 1), (20, 1), (21, 1), (22, 1), (23, 1), (24, 1)] := by unfold BZ; kernel_rfl
theorem ti47 : TI Tryz.prog 47 (.map none) 1 8 := by unfold TI; kernel_rfl
theorem sc47 : isScalar Tryz.prog 47 = true := by kernel_rfl
theorem ti52 : TI Tryz.prog 52 (.slice none 0 0) 1 24 := by unfold TI; kernel_rfl
theorem sc52 : isScalar Tryz.prog 52 = true := by kernel_rfl
theorem ti54 : TI Tryz.prog 54 (.agg #[(.string .empty), (.string .empty)]) 2 32 := by unfold TI; kernel_rfl
theorem ag54 : isAggT Tryz.prog 54 = true := by kernel_rfl
theorem bz54 : BZ Tryz.prog 54 [(.string .empty), (.string .empty)] [(0, 1), (1, 1)] := by unfold BZ; kernel_rfl
theorem ti59 : TI Tryz.prog 59 (.slice none 0 0) 1 24 := by unfold TI; kernel_rfl
theorem sc59 : isScalar Tryz.prog 59 = true := by kernel_rfl
theorem ti60 : TI Tryz.prog 60 (.slice none 0 0) 1 24 := by unfold TI; kernel_rfl
theorem sc60 : isScalar Tryz.prog 60 = true := by kernel_rfl
theorem bz62 : BZ Tryz.prog 62 [(.slice none 0 0), (.slice none 0 0), (.int .i64 0), (.bool false)] [(0, 1), (1, 1), (2, 1), (3, 1)] := by unfold BZ; kernel_rfl
theorem ti63 : TI Tryz.prog 63 (.pointer none) 1 8 := by unfold TI; kernel_rfl
theorem sc63 : isScalar Tryz.prog 63 = true := by kernel_rfl
theorem ti67 : TI Tryz.prog 67 (.pointer none) 1 8 := by unfold TI; kernel_rfl
theorem sc67 : isScalar Tryz.prog 67 = true := by kernel_rfl
theorem bz71 : BZ Tryz.prog 71 [(.pointer none), (.pointer none)] [(0, 1), (1, 1)] := by unfold BZ; kernel_rfl
theorem ti76 : TI Tryz.prog 76 (.agg #[(.int .u8 0), (.int .u8 0), (.int .u8 0), (.int .u8 0), (.int .u8 0), (.int .u8 0), (.int .u8 0), (.int .u8 0), (.int .u8 0), (.int .u8 0), (.int .u8 0), (.int .u8 0), (.int .u8 0), (.int .u8 0), (.int .u8 0), (.int .u8 0), (.int .u8 0), (.int .u8 0), (.int .u8 0), (.int .u8 0), (.int .u8 0), (.int .u8 0), (.int .u8 0), (.int .u8 0), (.int .u8 0), (.int .u8 0), (.int .u8 0), (.int .u8 0), (.int .u8 0), (.int .u8 0), (.int .u8 0), (.int .u8 0)]) 32 32 := by unfold TI; kernel_rfl
theorem ag76 : isAggT Tryz.prog 76 = true := by kernel_rfl
theorem ti78 : TI Tryz.prog 78 (.agg #[(.int .i64 0), (.int .u8 0), (.int .u8 0), (.int .u8 0), (.int .u8 0), (.int .u8 0), (.int .u8 0), (.int .u8 0), (.int .u8 0), (.int .u8 0), (.int .u8 0), (.int .u8 0), (.int .u8 0), (.int .u8 0), (.int .u8 0), (.int .u8 0), (.int .u8 0), (.int .u8 0), (.int .u8 0), (.int .u8 0), (.int .u8 0), (.int .u8 0), (.int .u8 0), (.int .u8 0), (.int .u8 0), (.int .u8 0), (.int .u8 0), (.int .u8 0), (.int .u8 0), (.int .u8 0), (.int .u8 0), (.int .u8 0), (.int .u8 0)]) 33 40 := by unfold TI; kernel_rfl
theorem ag78 : isAggT Tryz.prog 78 = true := by kernel_rfl
theorem bz78 : BZ Tryz.prog 78 [(.int .i64 0), (.int .u8 0), (.int .u8 0), (.int .u8 0), (.int .u8 0), (.int .u8 0), (.int .u8 0), (.int .u8 0), (.int .u8 0), (.int .u8 0), (.int .u8 0), (.int .u8 0), (.int .u8 0), (.int .u8 0), (.int .u8 0), (.int .u8 0), (.int .u8 0), (.int .u8 0), (.int .u8 0), (.int .u8 0), (.int .u8 0), (.int .u8 0), (.int .u8 0), (.int .u8 0), (.int .u8 0), (.int .u8 0), (.int .u8 0), (.int .u8 0), (.int .u8 0), (.int .u8 0), (.int .u8 0), (.int .u8 0), (.int .u8 0)] [(0, 1), (1, 32)] := by unfold BZ; kernel_rfl
theorem ti88 : TI Tryz.prog 88 (.agg #[(.int .i64 0), (.int .i64 0), (.int .i64 0), (.int .i64 0), (.int .i64 0)]) 5 40 := by unfold TI; kernel_rfl
theorem ag88 : isAggT Tryz.prog 88 = true := by kernel_rfl
theorem bz88 : BZ Tryz.prog 88 [(.int .i64 0), (.int .i64 0), (.int .i64 0), (.int .i64 0), (.int .i64 0)] [(0, 1), (1, 1), (2, 1), (3, 1), (4, 1)] := by unfold BZ; kernel_rfl
theorem bz92 : BZ Tryz.prog 92 [(.pointer none), (.int .i64 0), (.int .i64 0), (.int .i64 0), (.int .i64 0), (.int .i64 0), (.int .i64 0), (.int .i64 0), (.int .i64 0)] [(0, 1), (1, 5), (6, 1), (7, 1), (8, 1)] := by unfold BZ; kernel_rfl
theorem ti95 : TI Tryz.prog 95 (.slice none 0 0) 1 24 := by unfold TI; kernel_rfl
theorem sc95 : isScalar Tryz.prog 95 = true := by kernel_rfl
theorem bz101 : BZ Tryz.prog 101 [(.map none), (.int .i64 0)] [(0, 1), (1, 1)] := by unfold BZ; kernel_rfl
theorem ti111 : TI Tryz.prog 111 (.agg #[(.string .empty), (.string .empty), (.int .i64 0), (.string .empty), (.string .empty)]) 5 72 := by unfold TI; kernel_rfl
theorem ag111 : isAggT Tryz.prog 111 = true := by kernel_rfl
theorem bz111 : BZ Tryz.prog 111 [(.string .empty), (.string .empty), (.int .i64 0), (.string .empty), (.string .empty)] [(0, 1), (1, 1), (2, 1), (3, 1), (4, 1)] := by unfold BZ; kernel_rfl
theorem ti124 : TI Tryz.prog 124 (.agg #[(.int .i64 0), (.int .i64 0)]) 2 16 := by unfold TI; kernel_rfl
theorem ag124 : isAggT Tryz.prog 124 = true := by kernel_rfl
theorem ez124 : EZ Tryz.prog 124 2 = true := by kernel_rfl
theorem bz124 : BZ Tryz.prog 124 [(.int .i64 0), (.int .i64 0)] [(0, 1), (1, 1)] := by unfold BZ; kernel_rfl
theorem ti161 : TI Tryz.prog 161 (.agg #[(.int .i64 0), (.int .i64 0), (.string .empty), (.bool false)]) 4 40 := by unfold TI; kernel_rfl
theorem ag161 : isAggT Tryz.prog 161 = true := by kernel_rfl
theorem bz161 : BZ Tryz.prog 161 [(.int .i64 0), (.int .i64 0), (.string .empty), (.bool false)] [(0, 1), (1, 1), (2, 1), (3, 1)] := by unfold BZ; kernel_rfl
theorem bz186 : BZ Tryz.prog 186 [(.slice none 0 0), (.int .i64 0), (.bool false)] [(0, 1), (1, 1), (2, 1)] := by unfold BZ; kernel_rfl
theorem con3 : Tryz.prog.concrete 3 = true := by kernel_rfl
theorem con4 : Tryz.prog.concrete 4 = true := by kernel_rfl
theorem con9 : Tryz.prog.concrete 9 = true := by kernel_rfl
theorem call8 : Callable Tryz.prog 8 := ⟨Tryz.f8, Tryz.func8, by kernel_rfl, by kernel_rfl⟩
theorem call9 : Callable Tryz.prog 9 := ⟨Tryz.f9, Tryz.func9, by kernel_rfl, by kernel_rfl⟩
theorem call10 : Callable Tryz.prog 10 := ⟨Tryz.f10, Tryz.func10, by kernel_rfl, by kernel_rfl⟩
theorem call11 : Callable Tryz.prog 11 := ⟨Tryz.f11, Tryz.func11, by kernel_rfl, by kernel_rfl⟩
theorem call12 : Callable Tryz.prog 12 := ⟨Tryz.f12, Tryz.func12, by kernel_rfl, by kernel_rfl⟩
theorem call13 : Callable Tryz.prog 13 := ⟨Tryz.f13, Tryz.func13, by kernel_rfl, by kernel_rfl⟩
theorem call14 : Callable Tryz.prog 14 := ⟨Tryz.f14, Tryz.func14, by kernel_rfl, by kernel_rfl⟩
theorem call15 : Callable Tryz.prog 15 := ⟨Tryz.f15, Tryz.func15, by kernel_rfl, by kernel_rfl⟩
theorem call16 : Callable Tryz.prog 16 := ⟨Tryz.f16, Tryz.func16, by kernel_rfl, by kernel_rfl⟩
theorem call17 : Callable Tryz.prog 17 := ⟨Tryz.f17, Tryz.func17, by kernel_rfl, by kernel_rfl⟩
theorem call18 : Callable Tryz.prog 18 := ⟨Tryz.f18, Tryz.func18, by kernel_rfl, by kernel_rfl⟩
theorem call19 : Callable Tryz.prog 19 := ⟨Tryz.f19, Tryz.func19, by kernel_rfl, by kernel_rfl⟩
theorem call20 : Callable Tryz.prog 20 := ⟨Tryz.f20, Tryz.func20, by kernel_rfl, by kernel_rfl⟩
theorem call21 : Callable Tryz.prog 21 := ⟨Tryz.f21, Tryz.func21, by kernel_rfl, by kernel_rfl⟩
theorem call22 : Callable Tryz.prog 22 := ⟨Tryz.f22, Tryz.func22, by kernel_rfl, by kernel_rfl⟩
theorem call23 : Callable Tryz.prog 23 := ⟨Tryz.f23, Tryz.func23, by kernel_rfl, by kernel_rfl⟩
theorem call24 : Callable Tryz.prog 24 := ⟨Tryz.f24, Tryz.func24, by kernel_rfl, by kernel_rfl⟩
theorem call26 : Callable Tryz.prog 26 := ⟨Tryz.f26, Tryz.func26, by kernel_rfl, by kernel_rfl⟩
theorem call27 : Callable Tryz.prog 27 := ⟨Tryz.f27, Tryz.func27, by kernel_rfl, by kernel_rfl⟩
theorem call28 : Callable Tryz.prog 28 := ⟨Tryz.f28, Tryz.func28, by kernel_rfl, by kernel_rfl⟩
theorem call29 : Callable Tryz.prog 29 := ⟨Tryz.f29, Tryz.func29, by kernel_rfl, by kernel_rfl⟩
theorem call30 : Callable Tryz.prog 30 := ⟨Tryz.f30, Tryz.func30, by kernel_rfl, by kernel_rfl⟩
theorem call31 : Callable Tryz.prog 31 := ⟨Tryz.f31, Tryz.func31, by kernel_rfl, by kernel_rfl⟩
theorem call32 : Callable Tryz.prog 32 := ⟨Tryz.f32, Tryz.func32, by kernel_rfl, by kernel_rfl⟩
theorem call33 : Callable Tryz.prog 33 := ⟨Tryz.f33, Tryz.func33, by kernel_rfl, by kernel_rfl⟩
theorem call34 : Callable Tryz.prog 34 := ⟨Tryz.f34, Tryz.func34, by kernel_rfl, by kernel_rfl⟩
theorem call35 : Callable Tryz.prog 35 := ⟨Tryz.f35, Tryz.func35, by kernel_rfl, by kernel_rfl⟩
theorem call36 : Callable Tryz.prog 36 := ⟨Tryz.f36, Tryz.func36, by kernel_rfl, by kernel_rfl⟩
theorem call37 : Callable Tryz.prog 37 := ⟨Tryz.f37, Tryz.func37, by kernel_rfl, by kernel_rfl⟩
theorem call38 : Callable Tryz.prog 38 := ⟨Tryz.f38, Tryz.func38, by kernel_rfl, by kernel_rfl⟩
theorem call39 : Callable Tryz.prog 39 := ⟨Tryz.f39, Tryz.func39, by kernel_rfl, by kernel_rfl⟩
theorem call40 : Callable Tryz.prog 40 := ⟨Tryz.f40, Tryz.func40, by kernel_rfl, by kernel_rfl⟩
theorem call41 : Callable Tryz.prog 41 := ⟨Tryz.f41, Tryz.func41, by kernel_rfl, by kernel_rfl⟩
theorem call42 : Callable Tryz.prog 42 := ⟨Tryz.f42, Tryz.func42, by kernel_rfl, by kernel_rfl⟩
theorem call43 : Callable Tryz.prog 43 := ⟨Tryz.f43, Tryz.func43, by kernel_rfl, by kernel_rfl⟩
theorem call44 : Callable Tryz.prog 44 := ⟨Tryz.f44, Tryz.func44, by kernel_rfl, by kernel_rfl⟩
theorem call45 : Callable Tryz.prog 45 := ⟨Tryz.f45, Tryz.func45, by kernel_rfl, by kernel_rfl⟩
theorem call46 : Callable Tryz.prog 46 := ⟨Tryz.f46, Tryz.func46, by kernel_rfl, by kernel_rfl⟩
theorem call47 : Callable Tryz.prog 47 := ⟨Tryz.f47, Tryz.func47, by kernel_rfl, by kernel_rfl⟩
theorem call48 : Callable Tryz.prog 48 := ⟨Tryz.f48, Tryz.func48, by kernel_rfl, by kernel_rfl⟩
theorem call49 : Callable Tryz.prog 49 := ⟨Tryz.f49, Tryz.func49, by kernel_rfl, by kernel_rfl⟩
theorem call50 : Callable Tryz.prog 50 := ⟨Tryz.f50, Tryz.func50, by kernel_rfl, by kernel_rfl⟩
theorem call51 : Callable Tryz.prog 51 := ⟨Tryz.f51, Tryz.func51, by kernel_rfl, by kernel_rfl⟩
theorem call52 : Callable Tryz.prog 52 := ⟨Tryz.f52, Tryz.func52, by kernel_rfl, by kernel_rfl⟩
theorem call53 : Callable Tryz.prog 53 := ⟨Tryz.f53, Tryz.func53, by kernel_rfl, by kernel_rfl⟩
theorem call54 : Callable Tryz.prog 54 := ⟨Tryz.f54, Tryz.func54, by kernel_rfl, by kernel_rfl⟩
theorem call55 : Callable Tryz.prog 55 := ⟨Tryz.f55, Tryz.func55, by kernel_rfl, by kernel_rfl⟩
theorem call56 : Callable Tryz.prog 56 := ⟨Tryz.f56, Tryz.func56, by kernel_rfl, by kernel_rfl⟩
theorem call57 : Callable Tryz.prog 57 := ⟨Tryz.f57, Tryz.func57, by kernel_rfl, by kernel_rfl⟩
theorem call58 : Callable Tryz.prog 58 := ⟨Tryz.f58, Tryz.func58, by kernel_rfl, by kernel_rfl⟩
theorem call59 : Callable Tryz.prog 59 := ⟨Tryz.f59, Tryz.func59, by kernel_rfl, by kernel_rfl⟩
theorem call60 : Callable Tryz.prog 60 := ⟨Tryz.f60, Tryz.func60, by kernel_rfl, by kernel_rfl⟩
theorem call61 : Callable Tryz.prog 61 := ⟨Tryz.f61, Tryz.func61, by kernel_rfl, by kernel_rfl⟩
theorem call62 : Callable Tryz.prog 62 := ⟨Tryz.f62, Tryz.func62, by kernel_rfl, by kernel_rfl⟩
theorem call63 : Callable Tryz.prog 63 := ⟨Tryz.f63, Tryz.func63, by kernel_rfl, by kernel_rfl⟩
theorem call64 : Callable Tryz.prog 64 := ⟨Tryz.f64, Tryz.func64, by kernel_rfl, by kernel_rfl⟩
theorem call65 : Callable Tryz.prog 65 := ⟨Tryz.f65, Tryz.func65, by kernel_rfl, by kernel_rfl⟩
theorem call66 : Callable Tryz.prog 66 := ⟨Tryz.f66, Tryz.func66, by kernel_rfl, by kernel_rfl⟩
theorem call67 : Callable Tryz.prog 67 := ⟨Tryz.f67, Tryz.func67, by kernel_rfl, by kernel_rfl⟩
theorem call68 : Callable Tryz.prog 68 := ⟨Tryz.f68, Tryz.func68, by kernel_rfl, by kernel_rfl⟩
theorem call69 : Callable Tryz.prog 69 := ⟨Tryz.f69, Tryz.func69, by kernel_rfl, by kernel_rfl⟩
theorem call70 : Callable Tryz.prog 70 := ⟨Tryz.f70, Tryz.func70, by kernel_rfl, by kernel_rfl⟩
theorem call71 : Callable Tryz.prog 71 := ⟨Tryz.f71, Tryz.func71, by kernel_rfl, by kernel_rfl⟩
theorem call72 : Callable Tryz.prog 72 := ⟨Tryz.f72, Tryz.func72, by kernel_rfl, by kernel_rfl⟩
theorem call73 : Callable Tryz.prog 73 := ⟨Tryz.f73, Tryz.func73, by kernel_rfl, by kernel_rfl⟩
theorem call74 : Callable Tryz.prog 74 := ⟨Tryz.f74, Tryz.func74, by kernel_rfl, by kernel_rfl⟩
theorem call75 : Callable Tryz.prog 75 := ⟨Tryz.f75, Tryz.func75, by kernel_rfl, by kernel_rfl⟩
theorem call76 : Callable Tryz.prog 76 := ⟨Tryz.f76, Tryz.func76, by kernel_rfl, by kernel_rfl⟩
theorem call77 : Callable Tryz.prog 77 := ⟨Tryz.f77, Tryz.func77, by kernel_rfl, by kernel_rfl⟩
theorem call78 : Callable Tryz.prog 78 := ⟨Tryz.f78, Tryz.func78, by kernel_rfl, by kernel_rfl⟩
theorem call79 : Callable Tryz.prog 79 := ⟨Tryz.f79, Tryz.func79, by kernel_rfl, by kernel_rfl⟩
theorem call80 : Callable Tryz.prog 80 := ⟨Tryz.f80, Tryz.func80, by kernel_rfl, by kernel_rfl⟩
theorem call81 : Callable Tryz.prog 81 := ⟨Tryz.f81, Tryz.func81, by kernel_rfl, by kernel_rfl⟩
theorem call82 : Callable Tryz.prog 82 := ⟨Tryz.f82, Tryz.func82, by kernel_rfl, by kernel_rfl⟩
theorem call86 : Callable Tryz.prog 86 := ⟨Tryz.f86, Tryz.func86, by kernel_rfl, by kernel_rfl⟩
theorem call87 : Callable Tryz.prog 87 := ⟨Tryz.f87, Tryz.func87, by kernel_rfl, by kernel_rfl⟩
theorem call88 : Callable Tryz.prog 88 := ⟨Tryz.f88, Tryz.func88, by kernel_rfl, by kernel_rfl⟩
theorem call89 : Callable Tryz.prog 89 := ⟨Tryz.f89, Tryz.func89, by kernel_rfl, by kernel_rfl⟩
theorem call90 : Callable Tryz.prog 90 := ⟨Tryz.f90, Tryz.func90, by kernel_rfl, by kernel_rfl⟩
theorem call91 : Callable Tryz.prog 91 := ⟨Tryz.f91, Tryz.func91, by kernel_rfl, by kernel_rfl⟩
theorem call92 : Callable Tryz.prog 92 := ⟨Tryz.f92, Tryz.func92, by kernel_rfl, by kernel_rfl⟩
theorem call93 : Callable Tryz.prog 93 := ⟨Tryz.f93, Tryz.func93, by kernel_rfl, by kernel_rfl⟩
theorem call94 : Callable Tryz.prog 94 := ⟨Tryz.f94, Tryz.func94, by kernel_rfl, by kernel_rfl⟩
theorem call95 : Callable Tryz.prog 95 := ⟨Tryz.f95, Tryz.func95, by kernel_rfl, by kernel_rfl⟩
theorem call96 : Callable Tryz.prog 96 := ⟨Tryz.f96, Tryz.func96, by kernel_rfl, by kernel_rfl⟩
theorem call97 : Callable Tryz.prog 97 := ⟨Tryz.f97, Tryz.func97, by kernel_rfl, by kernel_rfl⟩
theorem call98 : Callable Tryz.prog 98 := ⟨Tryz.f98, Tryz.func98, by kernel_rfl, by kernel_rfl⟩
theorem call99 : Callable Tryz.prog 99 := ⟨Tryz.f99, Tryz.func99, by kernel_rfl, by kernel_rfl⟩
theorem call100 : Callable Tryz.prog 100 := ⟨Tryz.f100, Tryz.func100, by kernel_rfl, by kernel_rfl⟩
theorem call101 : Callable Tryz.prog 101 := ⟨Tryz.f101, Tryz.func101, by kernel_rfl, by kernel_rfl⟩
theorem call102 : Callable Tryz.prog 102 := ⟨Tryz.f102, Tryz.func102, by kernel_rfl, by kernel_rfl⟩
theorem call103 : Callable Tryz.prog 103 := ⟨Tryz.f103, Tryz.func103, by kernel_rfl, by kernel_rfl⟩
theorem call104 : Callable Tryz.prog 104 := ⟨Tryz.f104, Tryz.func104, by kernel_rfl, by kernel_rfl⟩
theorem call105 : Callable Tryz.prog 105 := ⟨Tryz.f105, Tryz.func105, by kernel_rfl, by kernel_rfl⟩
theorem call106 : Callable Tryz.prog 106 := ⟨Tryz.f106, Tryz.func106, by kernel_rfl, by kernel_rfl⟩
theorem call107 : Callable Tryz.prog 107 := ⟨Tryz.f107, Tryz.func107, by kernel_rfl, by kernel_rfl⟩
theorem call108 : Callable Tryz.prog 108 := ⟨Tryz.f108, Tryz.func108, by kernel_rfl, by kernel_rfl⟩
theorem call109 : Callable Tryz.prog 109 := ⟨Tryz.f109, Tryz.func109, by kernel_rfl, by kernel_rfl⟩
theorem call110 : Callable Tryz.prog 110 := ⟨Tryz.f110, Tryz.func110, by kernel_rfl, by kernel_rfl⟩
theorem call111 : Callable Tryz.prog 111 := ⟨Tryz.f111, Tryz.func111, by kernel_rfl, by kernel_rfl⟩
theorem call112 : Callable Tryz.prog 112 := ⟨Tryz.f112, Tryz.func112, by kernel_rfl, by kernel_rfl⟩
theorem call113 : Callable Tryz.prog 113 := ⟨Tryz.f113, Tryz.func113, by kernel_rfl, by kernel_rfl⟩
theorem call114 : Callable Tryz.prog 114 := ⟨Tryz.f114, Tryz.func114, by kernel_rfl, by kernel_rfl⟩
theorem call115 : Callable Tryz.prog 115 := ⟨Tryz.f115, Tryz.func115, by kernel_rfl, by kernel_rfl⟩
theorem call116 : Callable Tryz.prog 116 := ⟨Tryz.f116, Tryz.func116, by kernel_rfl, by kernel_rfl⟩
theorem call117 : Callable Tryz.prog 117 := ⟨Tryz.f117, Tryz.func117, by kernel_rfl, by kernel_rfl⟩
theorem call118 : Callable Tryz.prog 118 := ⟨Tryz.f118, Tryz.func118, by kernel_rfl, by kernel_rfl⟩
theorem call119 : Callable Tryz.prog 119 := ⟨Tryz.f119, Tryz.func119, by kernel_rfl, by kernel_rfl⟩
theorem call123 : Callable Tryz.prog 123 := ⟨Tryz.f123, Tryz.func123, by kernel_rfl, by kernel_rfl⟩
theorem call124 : Callable Tryz.prog 124 := ⟨Tryz.f124, Tryz.func124, by kernel_rfl, by kernel_rfl⟩
theorem call125 : Callable Tryz.prog 125 := ⟨Tryz.f125, Tryz.func125, by kernel_rfl, by kernel_rfl⟩
theorem call126 : Callable Tryz.prog 126 := ⟨Tryz.f126, Tryz.func126, by kernel_rfl, by kernel_rfl⟩
theorem call127 : Callable Tryz.prog 127 := ⟨Tryz.f127, Tryz.func127, by kernel_rfl, by kernel_rfl⟩
theorem call128 : Callable Tryz.prog 128 := ⟨Tryz.f128, Tryz.func128, by kernel_rfl, by kernel_rfl⟩
theorem call129 : Callable Tryz.prog 129 := ⟨Tryz.f129, Tryz.func129, by kernel_rfl, by kernel_rfl⟩
theorem call141 : Callable Tryz.prog 141 := ⟨Tryz.f141, Tryz.func141, by kernel_rfl, by kernel_rfl⟩
theorem call145 : Callable Tryz.prog 145 := ⟨Tryz.f145, Tryz.func145, by kernel_rfl, by kernel_rfl⟩
theorem call146 : Callable Tryz.prog 146 := ⟨Tryz.f146, Tryz.func146, by kernel_rfl, by kernel_rfl⟩
theorem call147 : Callable Tryz.prog 147 := ⟨Tryz.f147, Tryz.func147, by kernel_rfl, by kernel_rfl⟩
theorem call148 : Callable Tryz.prog 148 := ⟨Tryz.f148, Tryz.func148, by kernel_rfl, by kernel_rfl⟩
theorem call155 : Callable Tryz.prog 155 := ⟨Tryz.f155, Tryz.func155, by kernel_rfl, by kernel_rfl⟩
end Go.Proofs.YtadgbifmiooikaaGreatX
namespace Go.Proofs.YtadgbifmiooikaaGreatX
set_option linter.unusedVariables false
set_option linter.unusedSimpArgs false
open Go Go.RowKit Go.Lib
variable {w0 w : World} {I : Imm} {L : Own} {P : Program} {l : Env} {ty : TypeId} {N : Nat}
def rowB (bs : List UInt8) (pad : List Value) (e : TypeId) : Obj := .cells (bs.map b8 ++ pad).toArray e ((bs.map b8 ++ pad).length, (bs.map b8 ++ pad).length + 1)
theorem runs_bytesOf {src dst e : TypeId} {x : Operand} {s : ByteArray} (hs : P.underlying src = some .string) (hd : P.underlying dst = some (.slice e)) (he : P.underlying e = some (.int .u8)) (hx : ev l x = some (.string s)) (hst : St w0 w I L) :
    ∃ v w', Runs P (.convert src dst x) ty l w (.value v) w' ∧ ∃ b cap pad, v = .slice (some ⟨b, 0, none⟩) s.toList.length cap ∧ s.toList.length ≤ cap ∧ St w0 w' I ((b, rowB s.toList pad e) :: L) := by
  have h := run_bytes_of_string (P := P) w src dst e s hs hd he
  have hr : Runs P (.convert src dst x) ty l w (.value (.slice (some ⟨w.heap.size, 0, none⟩) s.size (grownCap w s.size 0 e)))
      (w.drew.alloc (.cells (bytesRow s (grownCap w s.size 0 e)) e ((bytesRow s (grownCap w s.size 0 e)).size, (bytesRow s (grownCap w s.size 0 e)).size + 1))) :=
    .of (fun ρ => convert src dst (ρ x)) (fun _ _ _ _ _ => rfl) fun ρ hρ => by rw [hρ x _ hx]; exact h
  have hrow : bytesRow s (grownCap w s.size 0 e) = (s.toList.map b8 ++ List.replicate (grownCap w s.size 0 e - s.size) (Value.int .u8 0)).toArray := by
    unfold bytesRow
    apply Array.ext'
    rw [ByteArray.toList_eq]
    simp [b8]
  rw [hrow] at hr; have e1 : (Obj.cells (s.toList.map b8 ++ List.replicate (grownCap w s.size 0 e - s.size) (Value.int .u8 0)).toArray e ((s.toList.map b8 ++ List.replicate (grownCap w s.size 0 e - s.size) (Value.int .u8 0)).toArray.size, (s.toList.map b8 ++ List.replicate (grownCap w s.size 0 e - s.size) (Value.int .u8 0)).toArray.size + 1)) = rowB s.toList (List.replicate (grownCap w s.size 0 e - s.size) (Value.int .u8 0)) e := rfl; rw [e1] at hr; have hcap := grownCap_ge w s.size 0 e
  generalize hC : grownCap w s.size 0 e = cap at *
  refine ⟨_, _, hr, w.heap.size, cap, List.replicate (cap - s.size) (Value.int .u8 0), ?_, ?_, ?_⟩
  · rw [size_toList]
  · rw [size_toList]; exact hcap
  · have h9 := hst.drewN.heap_new (rowB s.toList (List.replicate (cap - s.size) (Value.int .u8 0)) e); exact h9
theorem NoFz.behind (n : Nat) : NoFz n (n, n + 1) := fun o ho => by
  have : ¬ n ≤ o := by omega
  simp [this]
theorem rowB_get {bs : List UInt8} {pad : List Value} {k : Nat} (hk : k < bs.length) : ((bs.map b8 ++ pad).toArray)[k]? = some (b8 (bs.getD k 0)) := by
  rw [List.getElem?_toArray, List.getElem?_append_left (by simpa using hk)]
  simp [hk]
theorem rowB_set {bs : List UInt8} {pad : List Value} {k : Nat} (c : UInt8) (hk : k < bs.length) : ((bs.map b8 ++ pad).toArray.setIfInBounds k (b8 c)) = ((bs.set k c).map b8 ++ pad).toArray := by
  apply Array.ext'
  rw [Array.toList_setIfInBounds, List.set_append_left _ _ (by simpa using hk), List.map_set]
theorem rowB_freeze {b : Nat} {bs : List UInt8} {pad : List Value} {e : TypeId} {cap : Nat} (h : St w0 w I ((b, rowB bs pad e) :: L)) (hcap : bs.length ≤ cap) : ∃ I', I.le I' ∧ St w0 w I' L ∧ RdB I' (.slice (some ⟨b, 0, none⟩) bs.length cap) bs := by
  obtain ⟨h1, h2⟩ := h.freeze; refine ⟨_, h2, h1, by simp, b8_one bs, _, cap, rfl, hcap, fun j u hj => ⟨_, rfl, ?_⟩⟩; rw [add_lit]; unfold Imm.cell? rowB
  simp only [Imm.add_at, Option.isSome_none, Bool.false_eq_true, if_false, Nat.zero_add]
  have hjl := (List.getElem?_eq_some_iff.1 hj).1; rw [List.getElem?_toArray, List.getElem?_append_left hjl]; exact hj
def lowB (c : UInt8) : UInt8 := if 65 ≤ c.toNat ∧ c.toNat ≤ 90 then u8 ((c.toNat : Int) + 32) else c
def lower (bs : List UInt8) : List UInt8 := bs.map lowB
def lowTo (bs : List UInt8) (k : Nat) : List UInt8 := (bs.take k).map lowB ++ bs.drop k
theorem lowTo_zero (bs : List UInt8) : lowTo bs 0 = bs := by simp [lowTo]
theorem lowTo_end (bs : List UInt8) : lowTo bs bs.length = lower bs := by simp [lowTo, lower]
theorem lowTo_length (bs : List UInt8) (k : Nat) : (lowTo bs k).length = bs.length := by simp [lowTo]; omega
theorem lowTo_get {bs : List UInt8} {k : Nat} (hk : k < bs.length) : (lowTo bs k).getD k 0 = bs[k] := by
  unfold lowTo; rw [List.getD_eq_getElem?_getD, List.getElem?_append_right (by simp; omega)]
  simp [hk, Nat.min_eq_left (Nat.le_of_lt hk)]
theorem lowTo_set {bs : List UInt8} {k : Nat} (hk : k < bs.length) (c : UInt8) (hc : lowB bs[k] = c) : (lowTo bs k).set k c = lowTo bs (k + 1) := by
  unfold lowTo
  have h1 : ((bs.take k).map lowB).length = k := by simp; omega
  rw [List.set_append_right _ _ (by omega), h1, Nat.sub_self, List.drop_eq_getElem_cons hk, List.set_cons_zero, List.take_add_one, List.getElem?_eq_getElem hk, ← hc, List.map_append]
  simp only [Option.toList_some, List.map_cons, List.map_nil, List.append_assoc, List.singleton_append]
theorem lowTo_same {bs : List UInt8} {k : Nat} (hk : k < bs.length) (hc : lowB bs[k] = bs[k]) : lowTo bs k = lowTo bs (k + 1) := by
  unfold lowTo; rw [List.take_add_one, List.getElem?_eq_getElem hk, List.drop_eq_getElem_cons hk, List.map_append]
  simp only [Option.toList_some, List.map_cons, List.map_nil, List.append_assoc, List.singleton_append, hc]
end Go.Proofs.YtadgbifmiooikaaGreatX
namespace Go.Proofs.YtadgbifmiooikaaGreatX
set_option linter.unusedVariables false
set_option linter.unusedSimpArgs false
open Go Go.RowKit
variable {w0 w : World} {I : Imm} {L : Own} {P : Program} {l : Env} {ty : TypeId} {N : Nat}
theorem runs_rangeS {t : TypeId} {x : Operand} {s : ByteArray} (ht : P.underlying t = some .string) (hx : ev l x = some (.string s)) (hst : St w0 w I L) :
    ∃ v w', Runs P (.range t x) ty l w (.value v) w' ∧ ∃ b, v = .pointer (some ⟨b, 0, none⟩) ∧ St w0 w' I ((b, .stringIter s 0) :: L) :=
  ⟨_, _, .of (fun ρ => Instr.range t (ρ x)) (fun _ _ _ _ _ => rfl) fun ρ hρ => by
    rw [hρ x _ hx]; exact run_range_string w t s ht, _, rfl, hst.heap_new _⟩
def nextV (s : ByteArray) (pos : Nat) : List Value := if pos < s.size then [.bool true, .int .i64 pos, .int .i32 ((Utf8.decode s pos).1 : Int)] else [.bool false]
def nextP (s : ByteArray) (pos : Nat) : Nat := if pos < s.size then pos + (Utf8.decode s pos).2 else pos
theorem nextV_0 (s : ByteArray) (pos : Nat) : (nextV s pos)[0]? = some (.bool (decide (pos < s.size))) := by
  unfold nextV
  split <;> simp_all
theorem nextV_2 {s : ByteArray} {pos : Nat} (h : pos < s.size) : (nextV s pos)[2]? = some (.int .i32 ((Utf8.decode s pos).1 : Int)) := by unfold nextV; rw [if_pos h]; rfl
theorem runs_nextS {x : Operand} {b pos k : Nat} {s : ByteArray} (hx : ev l x = some (.pointer (some ⟨b, 0, none⟩))) (hst : St w0 w I L) (hL : L[k]? = some (b, .stringIter s pos)) :
    ∃ v w', Runs P (.next x true) ty l w (.value v) w' ∧ v = .tuple (nextV s pos).toArray ∧ St w0 w' I (L.set k (b, .stringIter s (nextP s pos))) := by
  have hb : w.heap[b]? = some (.stringIter s pos) := hst.own _ (List.mem_of_getElem? hL)
  by_cases hp : pos < s.size
  · refine ⟨_, w.iterAt b s (pos + (Utf8.decode s pos).2), .of (fun ρ => Instr.next (ρ x) true ty) (fun _ _ _ _ _ => rfl) fun ρ hρ => by rw [hρ x _ hx]; exact Lib.run_next_any_at w b s pos ty hb hp, ?_, ?_⟩
    · unfold nextV; rw [if_pos hp]
    · unfold nextP; rw [if_pos hp]
      exact hst.put hL rfl rfl rfl (Lib.iterAt_heap w b s pos _ hb) fun j hj _ => Lib.iterAt_other w b j s _ hj
  · refine ⟨_, w, .of (fun ρ => Instr.next (ρ x) true ty) (fun _ _ _ _ _ => rfl) fun ρ hρ => by rw [hρ x _ hx]; exact Lib.run_next_end_at w b s pos ty hb hp, ?_, ?_⟩
    · unfold nextV; rw [if_neg hp]
    · unfold nextP; rw [if_neg hp]; obtain ⟨hk, e⟩ := List.getElem?_eq_some_iff.1 hL; rw [← e, List.set_getElem_self]; exact hst
theorem runs_runeStr {src dst : TypeId} {x : Operand} {k : IntKind} {n : Int} (hs : (P.underlying src).isSome = true) (hd : P.underlying dst = some .string) (hx : ev l x = some (.int k n)) :
    Runs P (.convert src dst x) ty l w (.value (.string (Utf8.encode n))) w :=
  .of (fun ρ => convert src dst (ρ x)) (fun _ _ _ _ _ => rfl) fun ρ hρ => by rw [hρ x _ hx]; exact run_convert_int_string w src dst k n hs hd
def idxB (s : List UInt8) (c : UInt8) : Int := Lib.indexByte s c
open Go.Lib (decodeL decodeN)
def encL (r : Int) : List UInt8 := (Utf8.encode r).toList
def runesF : Nat → List UInt8 → List Nat
  | 0, _ => []
  | f + 1, l => if l = [] then [] else (decodeL l).1 :: runesF f (l.drop (decodeL l).2)
def runesL (l : List UInt8) : List Nat := runesF l.length l
theorem decodeL_w (l : List UInt8) : 1 ≤ (decodeL l).2 := Lib.width_pos _ _
theorem runesF_fuel : ∀ (n m : Nat) (l : List UInt8), l.length ≤ n → l.length ≤ m → runesF n l = runesF m l
  | 0, 0, _, _, _ => rfl
  | 0, m + 1, l, h, _ => by
    have : l = [] := List.eq_nil_of_length_eq_zero (by omega)
    rw [this]; rfl
  | n + 1, 0, l, _, h => by
    have : l = [] := List.eq_nil_of_length_eq_zero (by omega)
    rw [this]; rfl
  | n + 1, m + 1, l, h1, h2 => by
    by_cases hl : l = []
    · rw [hl]; rfl
    · have hw := decodeL_w l; have hp : 0 < l.length := List.length_pos_iff.2 hl
      show (if l = [] then [] else _) = (if l = [] then [] else _)
      rw [if_neg hl, if_neg hl, runesF_fuel n m (l.drop (decodeL l).2) (by rw [List.length_drop]; omega) (by rw [List.length_drop]; omega)]
theorem runesL_step {l : List UInt8} (hl : l ≠ []) : runesL l = (decodeL l).1 :: runesL (l.drop (decodeL l).2) := by
  have hp : 0 < l.length := List.length_pos_iff.2 hl; have hw := decodeL_w l; unfold runesL; obtain ⟨n, hn⟩ : ∃ n, l.length = n + 1 := ⟨l.length - 1, by omega⟩; rw [hn]
  show (if l = [] then [] else _) = _
  rw [if_neg hl, runesF_fuel n _ (l.drop (decodeL l).2) (by rw [List.length_drop]; omega) (Nat.le_refl _)]
def runesAt (s : ByteArray) (pos : Nat) : List Nat := runesL (s.toList.drop pos)
theorem runesAt_zero (s : ByteArray) : runesAt s 0 = runesL s.toList := by unfold runesAt; rw [List.drop_zero]
theorem runesAt_end {s : ByteArray} {pos : Nat} (h : ¬ pos < s.size) : runesAt s pos = [] := by
  unfold runesAt; rw [List.drop_eq_nil_of_le (by rw [size_toList]; omega)]
  rfl
theorem runesAt_next {s : ByteArray} {pos : Nat} (h : pos < s.size) : runesAt s pos = (Utf8.decode s pos).1 :: runesAt s (nextP s pos) := by
  have hd : decodeL (s.toList.drop pos) = Utf8.decode s pos := by rw [ByteArray.toList_eq]; exact Lib.decodeL_drop s pos
  unfold runesAt nextP; rw [if_pos h, runesL_step (by intro h0; have := congrArg List.length h0; rw [List.length_drop, size_toList] at this; simp at this; omega), hd, List.drop_drop]
theorem nextP_more {s : ByteArray} {pos : Nat} (h : pos < s.size) : pos < nextP s pos := by
  have := Lib.width_pos s pos; unfold nextP; rw [if_pos h]; omega
theorem rune_le (s : ByteArray) (pos : Nat) : (Utf8.decode s pos).1 ≤ 1114111 := Lib.rune_le s pos
theorem encL_len (r : Int) : 1 ≤ (encL r).length ∧ (encL r).length ≤ 4 := by
  unfold encL; rw [size_toList]; unfold Utf8.encode; dsimp only
  repeat' split
  all_goals (constructor <;> simp [ByteArray.size])
theorem encL_one {r : Int} (h0 : 0 ≤ r) (h1 : r < 128) : encL r = [u8 r] := by
  have hv : Utf8.valid r = true := by unfold Utf8.valid; simp; omega
  unfold encL Utf8.encode; rw [ByteArray.toList_eq, if_pos hv]; dsimp only; rw [if_pos (by omega)]
  show [UInt8.ofNat r.toNat] = _
  congr 1
  apply UInt8.toNat_inj.1
  have := u8_toNat r
  simp
  omega
end Go.Proofs.YtadgbifmiooikaaGreatX
namespace Go.Proofs.YtadgbifmiooikaaGreatX
set_option linter.unusedVariables false
set_option linter.unusedSimpArgs false
open Go Go.RowKit
variable {w0 w : World} {I : Imm} {L : Own} {P : Program} {l : Env} {ty : TypeId} {N : Nat}
def BA (P : Program) (t : TypeId) (zc : List Value) (size : Nat) : Prop :=
  (match P.info? t, P.underlying t with
   | some it, some (.array _ e) => (it.zero.map (·.cells.toList), (P.info? e).map (·.size))
   | _, _ => (none, none)) = (some zc, some size)
theorem BA.built {t : TypeId} {zc : List Value} {size : Nat} (h : BA P t zc size) {parts : List (Nat × Value)} {cells : List Value} (hf : bfill (fun i => some (i * size, size)) zc parts = some cells) : P.built t parts = some cells.toArray := by
  unfold BA at h; unfold Program.built
  cases hi : P.info? t with
  | none => simp [hi] at h
  | some it => cases hu : P.underlying t with
    | none => simp [hi, hu] at h
    | some d =>
      simp only [hi, hu] at h
      cases d <;> simp at h
      rename_i n e
      obtain ⟨⟨z, hz, hzc⟩, ie, he, hs⟩ := h
      simp only [hz, he, hs]
      have h1 := fill_of hf; rw [← hzc] at h1
      simpa using h1
def RdS (I : Imm) (v : Value) (xs : List ByteArray) : Prop := RdL I 1 v xs.length (xs.map Value.string)
def sat (xs : List ByteArray) (i : Int) : ByteArray := xs.getD i.toNat ⟨#[]⟩
theorem RdS.at {I : Imm} {v : Value} {xs : List ByteArray} {i : Int} (h : RdS I v xs) (h0 : 0 ≤ i) (h1 : i < xs.length) : I.cell? (slPtr v (i.toNat * 1)) = some (.string (sat xs i)) := by
  refine RdL.cell h ?_
  have hi : i.toNat < xs.length := by omega
  rw [Nat.mul_one, List.getElem?_map, List.getElem?_eq_getElem hi]; unfold sat
  simp [hi]
theorem RdS.mono {I I' : Imm} {v : Value} {xs : List ByteArray} (h : RdS I v xs) (hI : I.le I') : RdS I' v xs := RdL.mono hI h
theorem sat_get {xs : List ByteArray} {k : Nat} (hk : k < xs.length) : sat xs (k : Int) = xs[k] := by
  unfold sat
  simp [hk]
end Go.Proofs.YtadgbifmiooikaaGreatX
namespace Go.Proofs.YtadgbifmiooikaaGreatX
set_option linter.unusedVariables false
set_option linter.unusedSimpArgs false
open Go Go.RowKit
variable {w0 w : World} {I : Imm} {L : Own} {P : Program} {l : Env} {ty : TypeId} {N : Nat}
theorem AQ.panicked {fn : Func} {R : Ending → World → Prop} {ch : List PanicEntry} (h : R (.panicked ch) w) : AQ N (bodyPost P fn R) (.panic ch) l w := fun a ha => ⟨ha.2.1, h⟩
def Env.onD (N : Nat) (D : List Deferred) (l : Env) (a : Act) : Prop := a.tmps.size = N ∧ a.defers = D ∧ ∀ t v, l.get t = some v → a.tmps.getD t undef = v
theorem ev_onD {D : List Deferred} {a : Act} (ha : l.onD N D a) {x : Operand} {v : Value} (h : ev l x = some v) : a.eval x = v :=
  ev_on (a := { a with defers := [] }) ⟨ha.1, rfl, ha.2.2⟩ h
theorem Env.onD_put {D : List Deferred} {d : Nat} {a : Act} {v : Value} (hd : Nat.blt d N = true) (ha : l.onD N D a) : Env.onD N D ((d, v) :: l) (a.put (some d) v) := by
  have h := Env.on_put (a := { a with defers := [] }) (v := v) hd ⟨ha.1, rfl, ha.2.2⟩; exact ⟨h.1, ha.2.1, h.2.2⟩
def RWD (P : Program) (N : Nat) (D : List Deferred) (ops : Array Oper) (Q : Exit → Act → World → Prop) (rest : List Oper) (l : Env) (w : World) : Prop := ∀ a, l.onD N D a → wpList P ops Q rest a w
def CWD (P : Program) (N : Nat) (D : List Deferred) (Q : Exit → Act → World → Prop) (c : Code) (l : Env) (w : World) : Prop := ∀ a, l.onD N D a → c.wp P Q a w
def AQD (N : Nat) (D : List Deferred) (Q : Exit → Act → World → Prop) (e : Exit) (l : Env) (w : World) : Prop := ∀ a, l.onD N D a → Q e a w
section
variable {D : List Deferred} {ops : Array Oper} {Q : Exit → Act → World → Prop} {rest : List Oper}
theorem CWD.seq {x y : Code} (h : CWD P N D (Exit.then (fun a w => y.wp P Q a w) Q) x l w) : CWD P N D Q (.seq x y) l w := fun a ha => wp_seq (h a ha)
theorem CWD.ret (h : AQD N D Q .ret l w) : CWD P N D Q .ret l w := fun a ha => wp_ret (h a ha)
theorem CWD.region {id : Nat} {os : List Oper} (h : RWD P N D os.toArray Q os l w) : CWD P N D Q (.region id os.toArray false) l w := fun a ha => wp_region_lit (h a ha)
theorem CWD.cond {c : Operand} {x y : Code} {b : Bool} (hc : ev l c = some (.bool b)) (ht : b = true → CWD P N D Q x l w) (hf : b = false → CWD P N D Q y l w) :
    CWD P N D Q (.cond c x y) l w := fun a ha => wp_cond_split (ev_onD ha hc) (fun h => ht h a ha) (fun h => hf h a ha)
theorem RWD.done (h : AQD N D Q .normal l w) : RWD P N D ops Q [] l w := fun a ha => wpList_nil (h a ha)
theorem AQD.next {y : Code} {Q' : Exit → Act → World → Prop} (h : CWD P N D Q y l w) : AQD N D (Exit.then (fun a w => y.wp P Q a w) Q') .normal l w := h
theorem AQD.past_ret {K : Act → World → Prop} (h : AQD N D Q .ret l w) : AQD N D (Exit.then K Q) .ret l w := h
theorem RWD.op1 {d : Tmp} {o : Op} {pos : String} {after : Array Edge} {v : Value} {w' : World} (hd : Nat.blt d N = true)
    (hr : Runs P o ty l w (.value v) w') (h : RWD P N D ops Q rest ((d, v) :: l) w') : RWD P N D ops Q (⟨some d, o, ty, pos, after, none⟩ :: rest) l w := fun a ha =>
  wpList_plain rfl fun K hK => by
    unfold Oper.wp; rw [hr a.eval (fun x v => ev_onD ha) (some d) pos after none]; exact hK _ _ (h _ (Env.onD_put hd ha))
theorem RWD.op0 {o : Op} {pos : String} {after : Array Edge} {w' : World}
    (hr : Runs P o ty l w .skip w') (h : RWD P N D ops Q rest l w') : RWD P N D ops Q (⟨none, o, ty, pos, after, none⟩ :: rest) l w := fun a ha =>
  wpList_plain rfl fun K hK => by
    unfold Oper.wp; rw [hr a.eval (fun x v => ev_onD ha) none pos after none]; exact hK _ _ (h _ ha)
theorem RWD.opE {d : Tmp} {o : Op} {pos : String} {after : Array Edge} {Φ : Value → World → Prop} (hd : Nat.blt d N = true)
    (hr : ∃ v w', Runs P o ty l w (.value v) w' ∧ Φ v w') (h : ∀ v w', Φ v w' → RWD P N D ops Q rest ((d, v) :: l) w') : RWD P N D ops Q (⟨some d, o, ty, pos, after, none⟩ :: rest) l w :=
  let ⟨_, _, h1, h2⟩ := hr; RWD.op1 hd h1 (h _ _ h2)
theorem RWD.opE0 {o : Op} {pos : String} {after : Array Edge} {Φ : World → Prop}
    (hr : ∃ w', Runs P o ty l w .skip w' ∧ Φ w') (h : ∀ w', Φ w' → RWD P N D ops Q rest l w') : RWD P N D ops Q (⟨none, o, ty, pos, after, none⟩ :: rest) l w :=
  let ⟨_, h1, h2⟩ := hr; RWD.op0 h1 (h _ h2)
theorem RWD.defer {x : Operand} {ats : Array TypeId} {pos : String} {after : Array Edge} {fn : Fn} {first cap : Array Value} (hx : ev l x = some (.func fn first cap))
    (h : RWD P N ({ target := .fn fn cap, args := first } :: D) ops Q rest l w) : RWD P N D ops Q (⟨none, .defer ⟨.value x, #[], ats⟩, ty, pos, after, none⟩ :: rest) l w := fun a ha =>
  wpList_plain rfl fun K hK => by
    have h1 : (execOp a.eval ⟨none, .defer ⟨.value x, #[], ats⟩, ty, pos, after, none⟩).run P w = .ok (.defer { target := .fn fn cap, args := first }) w := by
      have e := ev_onD ha hx
      simp only [execOp, resolve, e, Deferred.ofValue]
      simp [go_sem]
    unfold Oper.wp; rw [h1]; exact hK _ _ (h _ ⟨ha.1, by simp [Act.put, ha.2.1], ha.2.2⟩)
theorem runs_makeFunc {f : FuncId} {xs : List Operand} {vs : List Value} (ha : evs l xs = some vs) : Runs P (.makeFunc (.func f) #[] xs.toArray) ty l w (.value (.func (.func f) #[] vs.toArray)) w := fun ρ hρ dst pos after guard => by
  have e2 : (xs.toArray.map ρ) = vs.toArray := by rw [List.map_toArray, evs_on hρ ha]
  simp only [execOp, e2, List.map_toArray, List.map_nil]
  rfl
theorem RWD.call {d : Tmp} {f : FuncId} {fo : Operand} {args : List Operand} {ats : Array TypeId} {pos : String} {after : Array Edge} {vs : List Value} {R : Ending → World → Prop} (hd : Nat.blt d N = true) (hf : Callable P f)
    (hfo : ev l fo = some (.func (.func f) #[] #[])) (ha : evs l args = some vs) (hc : Calls P f vs.toArray w R)
    (h : ∀ e w', R e w' → (∃ v, e = .returned v ∧ RWD P N D ops Q rest ((d, v) :: l) w') ∨ ∃ ch, e = .panicked ch ∧ AQD N D Q (.panic ch) l w') :
    RWD P N D ops Q (⟨some d, .call ⟨.value fo, args.toArray, ats⟩, ty, pos, after, none⟩ :: rest) l w := fun a hon =>
  wpList_plain rfl fun K hK => by
    unfold Oper.wp; rw [runs_call hf hfo ha a.eval (fun x v => ev_onD hon) (some d) pos after none]
    exact Calls.mono hc fun e w' he => by
      rcases h e w' he with ⟨v, rfl, h⟩ | ⟨ch, rfl, h⟩
      · exact hK _ _ (h _ (Env.onD_put hd hon))
      · exact h _ hon
theorem enter_on {fn : Func} {args : List Value} (hN : fn.ntmps = N) (hle : Nat.ble args.length N = true) : Env.on N (args.zipIdx.map fun p => (p.2, p.1)) { tmps := args.toArray ++ Array.replicate (fn.ntmps - args.toArray.size) undef, defers := [] } := by
  have hle' : args.length ≤ N := by simpa using hle
  subst hN; refine ⟨by simp; omega, rfl, fun t v ht => ?_⟩
  have key : ∀ (asq : List Value) (k t : Nat) (v : Value), Env.get ((asq.zipIdx k).map fun p => (p.2, p.1)) t = some v → k ≤ t ∧ asq[t - k]? = some v := by
    intro asq
    induction asq with
    | nil => intro k t v h; simp [Env.get] at h
    | cons x r ih =>
      intro k t v h
      simp only [List.zipIdx_cons, List.map_cons, Env.get] at h
      by_cases e : k = t
      · subst e
        simp [Nat.beq_refl] at h
        subst h; exact ⟨Nat.le_refl _, by simp⟩
      · have hb : Nat.beq k t = false := by
          cases hh : Nat.beq k t with
          | false => rfl
          | true => exact absurd (Nat.eq_of_beq_eq_true hh) e
        rw [hb] at h; obtain ⟨h1, h2⟩ := ih (k + 1) t v h; refine ⟨by omega, ?_⟩
        have : t - k = (t - (k + 1)) + 1 := by omega
        rw [this, List.getElem?_cons_succ]; exact h2
  obtain ⟨_, h2⟩ := key args 0 t v ht
  simp only [Nat.sub_zero] at h2
  have hlt : t < args.length := (List.getElem?_eq_some_iff.1 h2).1
  simp only [Array.getD_eq_getD_getElem?, Array.getElem?_append, List.size_toArray, hlt, if_true, List.getElem?_toArray, h2, Option.getD_some]
end
end Go.Proofs.YtadgbifmiooikaaGreatX
namespace Go.Proofs.YtadgbifmiooikaaGreatX
set_option linter.unusedVariables false
set_option linter.unusedSimpArgs false
open Go Go.RowKit
variable {w0 w : World} {I : Imm} {L : Own} {P : Program} {l : Env} {ty : TypeId} {N : Nat}
inductive EK where
  | i (k : IntKind)
  | s
  | b
def ekOf (P : Program) (t : TypeId) : Option EK := match P.underlying t with
  | some (.int k) => some (.i k)
  | some .string => some .s
  | some .bool => some .b
  | _ => none
def EK.is : EK → Value → Bool
  | .i k, .int k' _ => k == k'
  | .s, .string _ => true
  | .b, .bool _ => true
  | _, _ => false
def EM (P : Program) (t : TypeId) (ks : List EK) : Prop := ∃ fs : Array Field, P.underlying t = some (.struct fs) ∧ P.stoodInHeld t = false ∧ P.eqGuardType P.depth t = false ∧ fs.toList.length = ks.length ∧
  ∀ (i : Nat) (f : Field) (k : EK), fs.toList[i]? = some f → ks[i]? = some k → f.name ≠ "_" ∧ f.offset = i ∧ ekOf P f.type = some k
def EKs : List EK → List Value → Prop
  | [], [] => True
  | k :: ks, v :: vs => k.is v = true ∧ EKs ks vs
  | _, _ => False
theorem EKs.len : ∀ {ks : List EK} {vs : List Value}, EKs ks vs → ks.length = vs.length
  | [], [], _ => rfl
  | _ :: _, _ :: _, h => by simp [EKs.len h.2]
  | [], _ :: _, h => h.elim
  | _ :: _, [], h => h.elim
theorem EKs.get : ∀ {ks : List EK} {vs : List Value}, EKs ks vs → ∀ (i : Nat) (k : EK) (v : Value), ks[i]? = some k → vs[i]? = some v → k.is v = true
  | [], [], _, i, k, v, h, _ => by simp at h
  | _ :: _, _ :: _, hh, 0, k, v, h, h' => by simp at h h'; subst h h'; exact hh.1
  | _ :: _, _ :: _, hh, i + 1, k, v, h, h' => EKs.get hh.2 i k v (by simpa using h) (by simpa using h')
  | [], _ :: _, h, _, _, _, _, _ => h.elim
  | _ :: _, [], h, _, _, _, _, _ => h.elim
def emB (P : Program) (t : TypeId) (ks : List EK) : Bool := match P.underlying t with
  | some (.struct fs) => !(P.stoodInHeld t) && !(P.eqGuardType P.depth t) && fs.toList.length == ks.length && (fs.toList.zipIdx.zip ks).all fun (p, k) => p.1.name != "_" && p.1.offset == p.2 && (match ekOf P p.1.type, k with | some (.i a), .i b => a == b | some .s, .s => true | some .b, .b => true | _, _ => false)
  | _ => false
theorem EM.of {t : TypeId} {ks : List EK} (h : emB P t ks = true) : EM P t ks := by
  unfold emB at h
  cases hu : P.underlying t with
  | none => simp [hu] at h
  | some d =>
    cases d <;> simp only [hu] at h <;> try (exact absurd h (by decide))
    rename_i fs
    simp only [Bool.and_eq_true, Bool.not_eq_true', beq_iff_eq, List.all_eq_true] at h
    obtain ⟨⟨⟨hp, hg⟩, hl⟩, hall⟩ := h; refine ⟨fs, hu, hp, hg, hl, fun i f k hf hk => ?_⟩
    have hm : ((f, i), k) ∈ fs.toList.zipIdx.zip ks := by
      refine List.mem_of_getElem? (i := i) ?_; rw [List.getElem?_zip_eq_some]; exact ⟨by rw [List.getElem?_zipIdx, hf]; simp, hk⟩
    have h2 := hall _ hm
    simp only [Bool.and_eq_true, bne_iff_ne, beq_iff_eq] at h2
    refine ⟨h2.1.1, h2.1.2, ?_⟩; have h3 := h2.2
    cases he : ekOf P f.type with
    | none => rw [he] at h3; cases h3
    | some e => rw [he] at h3; cases e <;> cases k <;> simp at h3 ⊢; exact h3
end Go.Proofs.YtadgbifmiooikaaGreatX
namespace Go.Proofs.YtadgbifmiooikaaGreatX
set_option linter.unusedVariables false
set_option linter.unusedSimpArgs false
open Go Go.RowKit
variable {w0 w : World} {I : Imm} {L : Own} {P : Program} {l : Env} {ty : TypeId} {N : Nat}
theorem slPtr_add (g n c k j : Nat) : (slPtr (.slice (some ⟨g, 0, none⟩) n c) k).add j = slPtr (.slice (some ⟨g, 0, none⟩) n c) (k + j) := by
  simp only [slPtr]
  rw [Addr.add_add]
theorem slPtr_lit (g n c k : Nat) : slPtr (.slice (some ⟨g, 0, none⟩) n c) k = ⟨g, k, none⟩ := by
  simp only [slPtr]
  rw [add_lit, Nat.zero_add]
theorem Grow.cell {e : TypeId} {size n : Nat} {v : Value} {xs : List Value} {Lv : Own} (hg : Grow e size v n xs Lv) (hst : St w0 w I L) (hsub : ∀ p ∈ Lv, p ∈ L) {j : Nat} {u : Value} (hj : xs[j]? = some u) : w.cell? (slPtr v j) = some u := by
  obtain ⟨h1, h0, ⟨rfl, rfl, rfl⟩ | ⟨g, cap, cur, rfl, rfl, h3, h4, h5, h6⟩⟩ := hg
  · have : xs = [] := List.eq_nil_of_length_eq_zero (by simpa using h1); subst this
    cases hj
  · rw [slPtr_lit]; obtain ⟨k, hk⟩ := List.getElem?_of_mem (hsub (g, .cells cur e) (List.mem_cons_self ..)); refine hst.cell_own hk ?_; rw [← h6, List.getElem?_take] at hj
    split at hj
    · simpa using hj
    · cases hj
theorem Grow.indexAddr {t e e' : TypeId} {x y : Operand} {v : Value} {n : Nat} {xs : List Value} {Lv : Own} {k : IntKind} {i : Int} {z : Value} {size bytes : Nat} (ht : P.underlying t = some (.slice e)) (he : TI P e z size bytes) (hg : Grow e' size v n xs Lv) (hx : ev l x = some v) (hy : ev l y = some (.int k i)) (h : 0 ≤ i ∧ i < n) :
    Runs P (.indexAddr t x y) ty l w (.value (.pointer (some (slPtr v (i.toNat * size))))) w := by
  obtain ⟨h1, h0, ⟨rfl, rfl, rfl⟩ | ⟨g, cap, cur, rfl, rfl, h3, h4, h5, h6⟩⟩ := hg
  · simp at h; omega
  · have := runs_indexAddr0 (w := w) (ty := ty) ht he hx hy h; rw [slPtr_lit]
    rwa [Nat.zero_add] at this
theorem Grow.loadAt {e T : TypeId} {x : Operand} {z : Value} {n size sz bytes i : Nat} {v : Value} {xs row : List Value} {Lv : Own} (hT : isAggT P T = true) (ht : TI P T z sz bytes) (hg : Grow e size v n xs Lv) (hx : ev l x = some (.pointer (some (slPtr v i)))) (hst : St w0 w I L) (hsub : ∀ p ∈ Lv, p ∈ L) (hlen : row.length = sz)
    (hget : ∀ j u, row[j]? = some u → xs[i + j]? = some u) : Runs P (.load T x) ty l w (.value (.agg row.toArray)) w := by
  refine runs_loadA hT (by rw [hlen]; exact ht) hx fun j u hj => ?_
  have h1 := hg.cell hst hsub (hget j u hj); obtain ⟨_, _, ⟨rfl, rfl, rfl⟩ | ⟨g, cap, cur, rfl, rfl, h3, h4, h5, h6⟩⟩ := hg
  · have : xs = [] := List.eq_nil_of_length_eq_zero (by simpa using ‹xs.length = 0 * size›); subst this; have := hget j u hj
    cases this
  · rw [slPtr_add]; exact h1
theorem Grow.load1 {e T : TypeId} {x : Operand} {n size i : Nat} {v u : Value} {xs : List Value} {Lv : Own} (hT : isScalar P T = true) (hg : Grow e size v n xs Lv) (hx : ev l x = some (.pointer (some (slPtr v i)))) (hst : St w0 w I L) (hsub : ∀ p ∈ Lv, p ∈ L) (hget : xs[i]? = some u) : Runs P (.load T x) ty l w (.value u) w :=
  runs_load1 hT hx (hg.cell hst hsub hget)
theorem set_mid {α : Type} (L1 L2 : List α) (a b : α) : (L1 ++ ([a] ++ L2)).set L1.length b = L1 ++ ([b] ++ L2) := by simp
theorem get_mid {α : Type} (L1 L2 : List α) (a : α) : (L1 ++ ([a] ++ L2))[L1.length]? = some a := by simp
theorem take_over {α : Type} (cur xs vs : List α) (m i : Nat) (h : cur.take m = xs) (hi : i + vs.length ≤ m) (hm : m ≤ cur.length) : (cur.take i ++ vs ++ cur.drop (i + vs.length)).take m = xs.take i ++ vs ++ xs.drop (i + vs.length) := by
  have hxl : xs.length = m := by rw [← h, List.length_take]; omega
  have hc : cur = xs ++ cur.drop m := by rw [← h, List.take_append_drop]
  generalize cur.drop m = rest at hc
  subst hc; have e1 : (xs ++ rest).take i = xs.take i := List.take_append_of_le_length (by omega); have e2 : (xs ++ rest).drop (i + vs.length) = xs.drop (i + vs.length) ++ rest := List.drop_append_of_le_length (by omega); rw [e1, e2, ← List.append_assoc, List.take_left' (by simp only [List.length_append, List.length_take, List.length_drop]; omega)]
theorem Grow.storeAt {e S : TypeId} {x y : Operand} {z : Value} {n size sz bytes i : Nat} {v : Value} {xs row : List Value} {L1 L2 Lv : Own} (ht : TI P S z sz bytes) (hg : Grow e size v n xs Lv) (hx : ev l x = some (.pointer (some (slPtr v i)))) (hy : ev l y = some (.agg row.toArray)) (hst : St w0 w I (L1 ++ (Lv ++ L2))) (hlen : row.length = sz)
    (hpos : 0 < n) (hi : i + sz ≤ n * size) (hone : ∀ u ∈ row, u.oneCell' = true) :
    ∃ w', Runs P (.store S x y) ty l w .skip w' ∧ ∃ Lv', St w0 w' I (L1 ++ (Lv' ++ L2)) ∧ Grow e size v n (xs.take i ++ row ++ xs.drop (i + row.length)) Lv' := by
  subst hlen; obtain ⟨h1, h0, ⟨rfl, rfl, rfl⟩ | ⟨g, cap, cur, rfl, rfl, h3, h4, h5, h6⟩⟩ := hg
  · omega
  · rw [slPtr_lit] at hx; have hm : n * size ≤ cap * size := Nat.mul_le_mul_right _ h3; obtain ⟨w', h7, h8⟩ := runs_storeA (ty := ty) ht hx hy hst (get_mid L1 L2 _) (by omega) (NoFz.zero _) hone; rw [set_mid] at h8; refine ⟨w', h7, _, h8, ?_, ?_, .inr ⟨g, cap, _, rfl, rfl, h3, h4, ?_, ?_⟩⟩
    · simp only [List.length_append, List.length_take, List.length_drop, h1]; omega
    · intro u hu
      rcases List.mem_append.1 hu with hu | hu
      · rcases List.mem_append.1 hu with hu | hu
        · exact h0 u (List.mem_of_mem_take hu)
        · exact hone u hu
      · exact h0 u (List.mem_of_mem_drop hu)
    · simp only [List.size_toArray, List.length_append, List.length_take, List.length_drop, Array.length_toList]; omega
    · exact take_over cur.toList xs row (n * size) i h6 hi (by rw [Array.length_toList, h5]; exact hm)
theorem runs_sliceA_h {t e len : Nat} {x y' : Operand} {a : Addr} {k : IntKind} {hi : Int} {z : Value} {size bytes : Nat} (ht : P.underlying t = some (.array len e)) (he : TI P e z size bytes) (hx : ev l x = some (.pointer (some a))) (hy' : ev l y' = some (.int k hi)) (h : 0 ≤ hi ∧ hi ≤ len) :
    Runs P (.slice t x none (some y') none) ty l w (.value (.slice (some a) hi.toNat len)) w :=
  .of (fun ρ => Instr.sliceAt t (ρ x) none (some (ρ y')) none) (fun _ _ _ _ _ => rfl) fun ρ hρ => by
    have b1 := sb_ok (P := P) w (k := k) (i := hi) (y := len) h.1 h.2 .sliceAlen
    have e1 : a.add (0 * size) = a := by rw [Nat.zero_mul]; simp [Addr.add]
    simp only [hρ x _ hx, hρ y' _ hy', Instr.sliceAt, Sem.run_bind, run_underlying ht, Instr.sureAddr, Instr.sliceBounds, b1, Result.andThen, pure, Sem.run, he.run_size, Bool.false_eq_true, if_false, e1, ite_self, Nat.sub_zero]
theorem runs_sliceA {t e len : Nat} {x : Operand} {a : Addr} {z : Value} {size bytes : Nat} (ht : P.underlying t = some (.array len e)) (he : TI P e z size bytes) (hx : ev l x = some (.pointer (some a))) :
    Runs P (.slice t x none none none) ty l w (.value (.slice (some a) len len)) w :=
  .of (fun ρ => Instr.sliceAt t (ρ x) none none none) (fun _ _ _ _ _ => rfl) fun ρ hρ => by
    have e1 : a.add (0 * size) = a := by rw [Nat.zero_mul]; simp [Addr.add]
    simp only [hρ x _ hx, Instr.sliceAt, Sem.run_bind, run_underlying ht, Instr.sureAddr, Instr.sliceBounds, Result.andThen, pure, Sem.run, he.run_size, e1, ite_self, Nat.sub_zero]
theorem runs_arrayAt {t e len : Nat} {x : Operand} {v : Value} {n : Nat} {xs : List Value} {size : Nat} (ht : P.underlying t = some (.array len e)) (hx : ev l x = some v) (hr : RdL I size v n xs) (h0 : 0 < n) (hs : 0 < size) (h : len ≤ n) :
    Runs P (.sliceToArrayPointer t x) ty l w (.value (.pointer (some (slPtr v 0)))) w :=
  .of (fun ρ => Instr.arrayAt t (ρ x)) (fun _ _ _ _ _ => rfl) fun ρ hρ => by
    obtain ⟨h1, _, A, cap, rfl, _, h4⟩ := hr
    have hpos : 0 < xs.length := by rw [h1]; exact Nat.mul_pos h0 hs
    obtain ⟨a, rfl, _⟩ := h4 0 xs[0] (by simp [hpos])
    have e1 : slPtr (.slice (some a) n cap) 0 = a := by simp [slPtr, Addr.add]
    rw [e1]
    simp only [hρ x _ hx, Instr.arrayAt, Sem.run_bind, run_underlying ht, Result.andThen]
    rw [if_neg (by omega)]
    rfl
theorem RdL.loadAt {x : Operand} {T : TypeId} {z : Value} {bytes n size sz i : Nat} {v : Value} {xs row : List Value} (hT : isAggT P T = true) (ht : TI P T z sz bytes) (hx : ev l x = some (.pointer (some (slPtr v i)))) (hr : RdL I size v n xs) (hst : St w0 w I L) (hlen : row.length = sz)
    (hget : ∀ j u, row[j]? = some u → xs[i + j]? = some u) : Runs P (.load T x) ty l w (.value (.agg row.toArray)) w := by
  refine runs_loadA hT (by rw [hlen]; exact ht) hx fun j u hj => ?_
  have h1 := hst.cell_imm (hr.cell (hget j u hj)); obtain ⟨_, _, A, cap, rfl, _, h4⟩ := hr; obtain ⟨a, rfl, _⟩ := h4 _ u (hget j u hj)
  simp only [slPtr] at h1 ⊢
  rw [Addr.add_add]; exact h1
theorem Grow.copyAt {e dT sT elem : TypeId} {x y : Operand} {n size i m ms dc sc : Nat} {v : Value} {xs cs : List Value} {L1 L2 Lv : Own} {sa : Addr} (hu : P.underlying dT = some (.slice elem)) (hs : TI P elem (.int .u8 0) 1 1) (hg : Grow e size v n xs Lv) (hx : ev l x = some (.slice (some (slPtr v i)) m dc)) (hy : ev l y = some (.slice (some sa) ms sc))
    (hst : St w0 w I (L1 ++ (Lv ++ L2))) (hcs : cs.length = m) (hms : m ≤ ms) (hsrc : ∀ j u, cs[j]? = some u → w.cell? (sa.add j) = some u) (hpos : 0 < n) (hi : i + m ≤ n * size) (hone : ∀ u ∈ cs, u.oneCell' = true) :
    ∃ u w', Runs P (.call ⟨.builtin .copy, #[x, y], #[dT, sT]⟩) ty l w (.value u) w' ∧ ∃ Lv', St w0 w' I (L1 ++ (Lv' ++ L2)) ∧ Grow e size v n (xs.take i ++ cs ++ xs.drop (i + cs.length)) Lv' := by
  subst hcs; obtain ⟨h1, h0, ⟨rfl, rfl, rfl⟩ | ⟨g, cap, cur, rfl, rfl, h3, h4, h5, h6⟩⟩ := hg
  · omega
  · rw [slPtr_lit] at hx; have hm : n * size ≤ cap * size := Nat.mul_le_mul_right _ h3; have hb : w.heap[g]? = some (.cells cur e) := hst.own (g, .cells cur e) (List.mem_of_getElem? (get_mid L1 L2 _)); obtain ⟨inf, hi1, hi2, hi3, hi4⟩ := hs.get; have hrun := run_copy_row (P := P) w dT sT ty elem g i cs.length dc sa ms sc cur e cs hu (by rw [hi1]; simp [hi3]) hb (Nat.min_eq_right hms).symm hsrc (by omega) hone
    have hput := hst.put (k := L1.length) (b := g) (o := .cells cur e) (o' := .cells (cur.toList.take i ++ cs ++ cur.toList.drop (i + cs.length)).toArray e) (w' := w.setRow g (cur.toList.take i ++ cs ++ cur.toList.drop (i + cs.length)).toArray) (get_mid L1 L2 _) rfl rfl rfl
      (by simp [World.setRow, Array.getElem?_modify, hb]) (fun j hj _ => setRow_other w g j _ hj)
    rw [set_mid] at hput; refine ⟨_, _, Runs.bi (args := [x, y]) (vs := [.slice (some ⟨g, i, none⟩) cs.length dc, .slice (some sa) ms sc]) (by simp [evs, hx, hy]) (fun consts => by simp only [builtin, Sem.run_bind, hrun]; rfl), _, hput, ?_, ?_, .inr ⟨g, cap, _, rfl, rfl, h3, h4, ?_, ?_⟩⟩
    · simp only [List.length_append, List.length_take, List.length_drop, h1]; omega
    · intro u hu
      rcases List.mem_append.1 hu with hu | hu
      · rcases List.mem_append.1 hu with hu | hu
        · exact h0 u (List.mem_of_mem_take hu)
        · exact hone u hu
      · exact h0 u (List.mem_of_mem_drop hu)
    · simp only [List.size_toArray, List.length_append, List.length_take, List.length_drop, Array.length_toList]; omega
    · exact take_over cur.toList xs cs (n * size) i h6 hi (by rw [Array.length_toList, h5]; exact hm)
end Go.Proofs.YtadgbifmiooikaaGreatX
namespace Go.Proofs.YtadgbifmiooikaaGreatX
set_option linter.unusedVariables false
set_option linter.unusedSimpArgs false
open Go Go.RowKit
variable {w0 w : World} {I : Imm} {L : Own} {P : Program} {l : Env} {ty : TypeId} {N : Nat}
section
variable {κ : Type} [DecidableEq κ]
def mfind : List (κ × Value) → κ → Nat → Option (Nat × Value)
  | [], _, _ => none
  | (a, u) :: r, k, i => if k = a then some (i, u) else mfind r k (i + 1)
def mget : List (κ × Value) → κ → Option Value
  | [], _ => none
  | (a, u) :: r, k => if k = a then some u else mget r k
def mput : List (κ × Value) → κ → Value → List (κ × Value)
  | [], k, v => [(k, v)]
  | (a, u) :: r, k, v => if k = a then (a, v) :: r else (a, u) :: mput r k v
theorem mfind_get : ∀ (rows : List (κ × Value)) (k : κ) (i : Nat), (mfind rows k i).map (·.2) = mget rows k
  | [], _, _ => rfl
  | (a, u) :: r, k, i => by
    unfold mfind mget
    split
    · rfl
    · exact mfind_get r k (i + 1)
theorem mfind_ge : ∀ (rows : List (κ × Value)) (k : κ) (i j : Nat) (u : Value), mfind rows k i = some (j, u) → i ≤ j
  | [], _, _, _, _, h => by cases h
  | (a, x) :: r, k, i, j, u, h => by
    unfold mfind at h
    split at h
    · cases h; exact Nat.le_refl _
    · have := mfind_ge r k (i + 1) j u h; omega
def MRel (enc : κ → Value) (es : List MapEntry) (rows : List (κ × Value)) : Prop := es.map (fun e => (e.key, e.val)) = rows.map fun r => (enc r.1, r.2)
theorem MRel.put {enc : κ → Value} {k : κ} {v : Value} : ∀ {es : List MapEntry} {rows : List (κ × Value)} (h : MRel enc es rows) (i j : Nat) (u : Value), mfind rows k i = some (j, u) → MRel enc (es.modify (j - i) fun e => { e with key := enc k, val := v }) (mput rows k v)
  | [], [], _, _, _, _, hf => by cases hf
  | [], _ :: _, h, _, _, _, _ => by cases h
  | _ :: _, [], h, _, _, _, _ => by cases h
  | e :: es, (a, x) :: r, h, i, j, u, hf => by
    unfold MRel at h
    simp only [List.map_cons, List.cons.injEq, Prod.mk.injEq] at h
    unfold mfind at hf
    by_cases hk : k = a
    · rw [if_pos hk] at hf
      cases hf
      subst hk; unfold mput; rw [if_pos rfl, Nat.sub_self]; unfold MRel
      simp [h.2]
    · rw [if_neg hk] at hf; have hge := mfind_ge r k (i + 1) j u hf; have ih := MRel.put (v := v) h.2 (i + 1) j u hf; unfold mput; rw [if_neg hk, show j - i = (j - (i + 1)) + 1 by omega]; unfold MRel at ih ⊢
      simp [ih, h.1]
theorem MRel.push {enc : κ → Value} {k : κ} {v : Value} {c : Nat} : ∀ {es : List MapEntry} {rows : List (κ × Value)} (h : MRel enc es rows) (i : Nat), mfind rows k i = none → MRel enc (es ++ [{ key := enc k, val := v, born := c }]) (mput rows k v)
  | [], [], _, _, _ => rfl
  | [], _ :: _, h, _, _ => by cases h
  | _ :: _, [], h, _, _ => by cases h
  | e :: es, (a, x) :: r, h, i, hf => by
    unfold MRel at h
    simp only [List.map_cons, List.cons.injEq, Prod.mk.injEq] at h
    unfold mfind at hf
    by_cases hk : k = a
    · rw [if_pos hk] at hf; cases hf
    · rw [if_neg hk] at hf; have ih := MRel.push (v := v) (c := c) h.2 (i + 1) hf; unfold mput; rw [if_neg hk]; unfold MRel at ih ⊢
      simp [ih, h.1]
structure KeyL (P : Program) (kt : TypeId) (enc : κ → Value) : Prop where
  chk : ∀ (e : Bool) (k : κ) (w : World), (Instr.checkKey e 10000 kt (enc k)).run P w = .ok () w
  fnd : ∀ (w : World) (k : κ) (es : List MapEntry) (rows : List (κ × Value)), MRel enc es rows → (Instr.findKey kt (enc k) es).run P w = .ok (mfind rows k 0) w
  same : ∀ k, Instr.sameBits 10000 (enc k) (enc k) = true
def MapR (enc : κ → Value) (o : Obj) (rows : List (κ × Value)) : Prop := ∃ es clock, o = .map es clock ∧ MRel enc es.toList rows ∧ (∀ e ∈ es.toList, e.born < clock) ∧ (es.toList.map (·.born)).Nodup
omit [DecidableEq κ] in
theorem MapR.empty (enc : κ → Value) : MapR enc (.map #[] 0) [] := ⟨#[], 0, rfl, rfl, by simp, by simp⟩
theorem runs_makeMap {t : TypeId} (hst : St w0 w I L) :
    ∃ v w', Runs P (.makeMap t none) ty l w (.value v) w' ∧ ∃ b, v = .map (some b) ∧ St w0 w' I ((b, .map #[] 0) :: L) :=
  ⟨_, _, .of (fun _ => Instr.makeMap t none) (fun _ _ _ _ _ => rfl) fun ρ hρ => by
    simp [Instr.makeMap, go_sem, newObj]; rfl, _, rfl, hst.heap_new _⟩
theorem runs_lookup {enc : κ → Value} {t kt et : TypeId} {x y : Operand} {b i : Nat} {o : Obj} {rows : List (κ × Value)} {key : κ} {z : Value} {size bytes : Nat} (hK : KeyL P kt enc) (ht : P.underlying t = some (.map kt et)) (he : TI P et z size bytes)
    (hx : ev l x = some (.map (some b))) (hy : ev l y = some (enc key)) (hst : St w0 w I L) (hL : L[i]? = some (b, o)) (hr : MapR enc o rows) :
    Runs P (.lookup t x y false) ty l w (.value ((mget rows key).getD z)) w :=
  .of (fun ρ => Instr.lookup t (ρ x) (ρ y) false) (fun _ _ _ _ _ => rfl) fun ρ hρ => by
    obtain ⟨es, clock, rfl, h1, _, _⟩ := hr; have hb : w.heap[b]? = some (.map es clock) := hst.own _ (List.mem_of_getElem? hL)
    simp only [hρ x _ hx, hρ y _ hy, Instr.lookup, Sem.run_bind, run_underlying ht, Result.andThen, MapKept.run_getObj_map hb, hK.chk, hK.fnd w key _ _ h1, pure, Sem.run]
    rw [← mfind_get rows key 0]
    cases hf : mfind rows key 0 with
    | none => simp [he.run_zero, Sem.run_bind, Result.andThen, pure, Sem.run]
    | some p => simp [Sem.run_bind, Result.andThen, pure, Sem.run]
theorem runs_mapUpdate {enc : κ → Value} {t kt et : TypeId} {x y u : Operand} {b i : Nat} {o : Obj} {rows : List (κ × Value)} {key : κ} {v : Value} (hK : KeyL P kt enc) (ht : P.underlying t = some (.map kt et))
    (hx : ev l x = some (.map (some b))) (hy : ev l y = some (enc key)) (hu : ev l u = some v) (hst : St w0 w I L) (hL : L[i]? = some (b, o)) (hr : MapR enc o rows) :
    ∃ w', Runs P (.mapUpdate t x y u) ty l w .skip w' ∧ ∃ o', St w0 w' I (L.set i (b, o')) ∧ MapR enc o' (mput rows key v) := by
  obtain ⟨es, clock, rfl, h1, h2, h3⟩ := hr; have hb : w.heap[b]? = some (.map es clock) := hst.own _ (List.mem_of_getElem? hL)
  have put : ∀ o', St w0 { w with heap := w.heap.setIfInBounds b o' } I (L.set i (b, o')) := fun o' =>
    hst.put hL rfl rfl rfl (MapKept.heap_set hb).1 fun j hj _ => (MapKept.heap_set hb).2 j hj
  have hf := hK.fnd w key _ _ h1
  cases hm : mfind rows key 0 with
  | none =>
    rw [hm] at hf; refine ⟨{ w with heap := w.heap.setIfInBounds b (.map (es.push { key := enc key, val := v, born := clock }) (clock + 1)) }, .ofU (fun ρ => Instr.mapUpdate t (ρ x) (ρ y) (ρ u)) (fun _ _ _ _ _ => rfl) fun ρ hρ => ?_, _, put _, es.push { key := enc key, val := v, born := clock }, clock + 1, rfl, ?_, ?_, ?_⟩
    · simp only [hρ x _ hx, hρ y _ hy, hρ u _ hu, Instr.mapUpdate, Sem.run_bind, run_underlying ht, Result.andThen, MapKept.run_getObj_map hb, hK.chk, hf, MapKept.run_setObj_map _ hb]
    · rw [Array.toList_push]; exact h1.push 0 hm
    · intro e he; rw [Array.toList_push] at he
      rcases List.mem_append.1 he with h | h
      · have := h2 e h; omega
      · rw [List.mem_singleton.1 h]; exact Nat.lt_succ_self _
    · rw [Array.toList_push, List.map_append]; refine List.nodup_append.2 ⟨h3, by simp, ?_⟩; intro a ha b hb e; obtain ⟨y, hy, rfl⟩ := List.mem_map.1 ha; have := h2 y hy
      simp only [List.map_cons, List.map_nil, List.mem_singleton] at hb
      omega
  | some p =>
    obtain ⟨j, u0⟩ := p; rw [hm] at hf
    have hkeys : ∀ (es : List MapEntry) (rows : List (κ × Value)) (i0 : Nat), MRel enc es rows → ∀ {j : Nat} {u0 : Value}, mfind rows key i0 = some (j, u0) → (es[j - i0]?).map (·.key) = some (enc key) := by
      intro es
      induction es with
      | nil => intro rows i0 h j u0 hm; cases rows with
        | nil => cases hm
        | cons p r => cases h
      | cons e es ih => intro rows i0 h j u0 hm; cases rows with
        | nil => cases hm
        | cons p r =>
          obtain ⟨a, x⟩ := p; unfold MRel at h
          simp only [List.map_cons, List.cons.injEq, Prod.mk.injEq] at h
          unfold mfind at hm
          by_cases hk : key = a
          · rw [if_pos hk] at hm; cases hm; rw [Nat.sub_self]; subst hk; simp [h.1.1]
          · rw [if_neg hk] at hm; have hge := mfind_ge r key (i0 + 1) j u0 hm; rw [show j - i0 = (j - (i0 + 1)) + 1 by omega, List.getElem?_cons_succ]; exact ih r (i0 + 1) h.2 hm
    have hkey := hkeys es.toList rows 0 h1 hm; rw [Nat.sub_zero, Array.getElem?_toList] at hkey
    have hstay : (Instr.keyThatStays (enc key) (enc key)).run P w = .ok (enc key) w := by simp [Instr.keyThatStays, hK.same]
    refine ⟨{ w with heap := w.heap.setIfInBounds b (.map (es.modify j fun e => { e with key := enc key, val := v }) clock) }, .ofU (fun ρ => Instr.mapUpdate t (ρ x) (ρ y) (ρ u)) (fun _ _ _ _ _ => rfl) fun ρ hρ => ?_, _, put _, es.modify j (fun e => { e with key := enc key, val := v }), clock, rfl, ?_, ?_, ?_⟩
    · simp only [hρ x _ hx, hρ y _ hy, hρ u _ hu, Instr.mapUpdate, Sem.run_bind, run_underlying ht, Result.andThen, MapKept.run_getObj_map hb, hK.chk, hf, hkey, Option.getD_some, hstay, MapKept.run_setObj_map _ hb]
    · rw [Array.toList_modify]; exact h1.put 0 j u0 hm
    · intro e he; rw [Array.toList_modify] at he; obtain ⟨q, hq⟩ := List.getElem?_of_mem he; rw [List.getElem?_modify] at hq
      cases hes : es.toList[q]? with
      | none => rw [hes] at hq; cases hq
      | some e0 =>
        have h4 := h2 e0 (List.mem_of_getElem? hes); rw [hes] at hq
        by_cases hjq : j = q
        · simp [hjq] at hq; rw [← hq]; exact h4
        · simp [hjq] at hq; rw [← hq]; exact h4
    · have : ((es.modify j fun e => { e with key := enc key, val := v }).toList.map (·.born)) = es.toList.map (·.born) := by
        rw [Array.toList_modify]
        apply List.ext_getElem?
        intro q; rw [List.getElem?_map, List.getElem?_map, List.getElem?_modify]
        cases es.toList[q]? with
        | none => rfl
        | some e0 => by_cases hjq : j = q <;> simp [hjq]
      rw [this]; exact h3
end
def kI (n : Int) : Value := .int .i64 n
theorem keyI {kt : TypeId} (hk : P.underlying kt = some (.int .i64)) : KeyL P kt kI where
  chk e k w := by
    show (Instr.checkKey e (9999 + 1) kt _).run P w = _
    unfold Instr.checkKey
    simp [Sem.run_bind, run_underlying hk, Result.andThen, kI, pure, Sem.run]
  same k := by simp [Instr.sameBits, kI]
  fnd w k es rows h := by
    have key : ∀ (es : List MapEntry) (rows : List (Int × Value)) (i : Nat), MRel kI es rows → Instr.findNow (.int .i64) (kI k) es i = some (mfind rows k i) := by
      intro es
      induction es with
      | nil => intro rows i h; cases rows with
        | nil => rfl
        | cons p r => cases h
      | cons e es ih => intro rows i h; cases rows with
        | nil => cases h
        | cons p r =>
          obtain ⟨a, x⟩ := p; unfold MRel at h
          simp only [List.map_cons, List.cons.injEq, Prod.mk.injEq] at h
          unfold Instr.findNow mfind; rw [h.1.1]
          simp only [Instr.sameNow, kI, if_true]
          by_cases hk : k = a
          · simp [hk, h.1.2]
          · have : (k == a) = false := by simpa using hk
            rw [this, if_neg hk]; exact ih r (i + 1) h.2
    simp [Instr.findKey, run_underlying hk, Result.andThen, Sem.run_bind, key es rows 0 h, pure, Sem.run]
def kZ (xs : List Int) : Value := .agg (xs.map fun n => Value.int .i64 n).toArray
structure ZKey (n : Nat) where
  xs : List Int
  len : xs.length = n
  deriving DecidableEq
def ZKey.v {n : Nat} (k : ZKey n) : Value := kZ k.xs
theorem EZ.opn {kt : TypeId} {n : Nat} (hk : EZ P kt n = true) : ∃ fs : Array Field, P.underlying kt = some (.struct fs) ∧ fs.toList.length = n ∧ ∀ p ∈ fs.toList.zipIdx, (p.1.name != "_" && p.1.offset == p.2 && isI64 P p.1.type) = true := by
  unfold EZ at hk
  cases hu : P.underlying kt with
  | none => simp [hu] at hk
  | some d =>
    cases d <;> simp only [hu] at hk <;> try (exact absurd hk (by decide))
    rename_i fs
    simp only [Bool.and_eq_true, beq_iff_eq, List.all_eq_true] at hk
    exact ⟨fs, rfl, hk.1.2, fun p hp => by simpa using hk.2 p hp⟩
end Go.Proofs.YtadgbifmiooikaaGreatX
