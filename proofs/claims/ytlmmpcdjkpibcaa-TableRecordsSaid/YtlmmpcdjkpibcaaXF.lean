/- Texts rune by rune; what stands in for a search of a byte. Own lemmas, no program in sight. -/
import Derived.Test.YtlmmpcdjkpibcaaXC
import Derived.Lib.OthersKept
import Derived.Lib.MapLaws
import Derived.Laws.Runes
import Derived.Laws.StandIn
import Derived.Lib.Bytealg
import Derived.Lib.QuoteLoop
import Derived.Lib.TrimUEq
namespace Go.Proofs.YtlmmpcdjkpibcaaX
set_option linter.unusedVariables false
set_option linter.unusedSimpArgs false
open Go Go.RowKit
variable {w0 w : World} {I : Imm} {L : Own} {P : Program} {l : Env} {ty : TypeId} {N : Nat}

theorem runs_rangeS {t : TypeId} {x : Operand} {s : ByteArray} (ht : P.underlying t = some .string) (hx : ev l x = some (.string s)) (hst : St w0 w I L) :
    ∃ v w', Runs P (.range t x) ty l w (.value v) w' ∧ ∃ b, v = .pointer (some ⟨b, 0, none⟩) ∧ St w0 w' I ((b, .stringIter s 0) :: L) :=
  ⟨_, _, .of (fun ρ => Instr.range t (ρ x)) (fun _ _ _ _ _ => rfl) fun ρ hρ => by
    rw [hρ x _ hx]; exact run_range_string w t s ht, _, rfl, hst.heap_new _⟩
/-- What 'next' hands back at a place, and where it stands then. -/
def nextV (s : ByteArray) (pos : Nat) : List Value := if pos < s.size then [.bool true, .int .i64 pos, .int .i32 ((Utf8.decode s pos).1 : Int)] else [.bool false]
def nextP (s : ByteArray) (pos : Nat) : Nat := if pos < s.size then pos + (Utf8.decode s pos).2 else pos
theorem nextV_0 (s : ByteArray) (pos : Nat) : (nextV s pos)[0]? = some (.bool (decide (pos < s.size))) := by
  unfold nextV
  split <;> simp_all
theorem nextV_1 {s : ByteArray} {pos : Nat} (h : pos < s.size) : (nextV s pos)[1]? = some (.int .i64 (pos : Int)) := by unfold nextV; rw [if_pos h]; rfl
theorem nextV_2 {s : ByteArray} {pos : Nat} (h : pos < s.size) : (nextV s pos)[2]? = some (.int .i32 ((Utf8.decode s pos).1 : Int)) := by unfold nextV; rw [if_pos h]; rfl
theorem runs_nextS {x : Operand} {b pos k : Nat} {s : ByteArray} (hx : ev l x = some (.pointer (some ⟨b, 0, none⟩))) (hst : St w0 w I L) (hL : L[k]? = some (b, .stringIter s pos)) :
    ∃ v w', Runs P (.next x true) ty l w (.value v) w' ∧ v = .tuple (nextV s pos).toArray ∧ St w0 w' I (L.set k (b, .stringIter s (nextP s pos))) := by
  have hb : w.heap[b]? = some (.stringIter s pos) := hst.own _ (List.mem_of_getElem? hL)
  by_cases hp : pos < s.size
  · refine ⟨_, w.iterAt b s (pos + (Utf8.decode s pos).2), .of (fun ρ => Instr.next (ρ x) true ty) (fun _ _ _ _ _ => rfl) fun ρ hρ => by rw [hρ x _ hx]; exact Lib.run_next_any_at w b s pos ty hb hp, ?_, ?_⟩
    · unfold nextV; rw [if_pos hp]
    · unfold nextP
      rw [if_pos hp]
      exact hst.put hL rfl rfl rfl (Lib.iterAt_heap w b s pos _ hb) fun j hj _ => Lib.iterAt_other w b j s _ hj
  · refine ⟨_, w, .of (fun ρ => Instr.next (ρ x) true ty) (fun _ _ _ _ _ => rfl) fun ρ hρ => by rw [hρ x _ hx]; exact Lib.run_next_end_at w b s pos ty hb hp, ?_, ?_⟩
    · unfold nextV; rw [if_neg hp]
    · unfold nextP
      rw [if_neg hp]
      obtain ⟨hk, e⟩ := List.getElem?_eq_some_iff.1 hL
      rw [← e, List.set_getElem_self]
      exact hst
theorem runs_runeStr {src dst : TypeId} {x : Operand} {k : IntKind} {n : Int} (hs : (P.underlying src).isSome = true) (hd : P.underlying dst = some .string) (hx : ev l x = some (.int k n)) :
    Runs P (.convert src dst x) ty l w (.value (.string (Utf8.encode n))) w :=
  .of (fun ρ => convert src dst (ρ x)) (fun _ _ _ _ _ => rfl) fun ρ hρ => by rw [hρ x _ hx]; exact run_convert_int_string w src dst k n hs hd
theorem runs_extern {f : FuncId} {fo : Operand} {fn : Func} {args : List Operand} {ats : Array TypeId} {vs : List Value} {e : Array Value → Sem Value} {v : Value} (hf : P.funcs[f]? = some fn) (hname : (fn.name == "runtime.NumGoroutine") = false)
    (hb : fn.body.isNone = true) (hn : Extern.findNext fn = none) (he : Extern.find fn = some e) (hfo : ev l fo = some (.func (.func f) #[] #[])) (ha : evs l args = some vs) (hr : (e vs.toArray).run P w = .ok v w) :
    Runs P (.call ⟨.value fo, args.toArray, ats⟩) ty l w (.value v) w := by
  intro ρ hρ dst pos after guard
  have e1 := hρ _ _ hfo
  have e2 : (args.toArray.map ρ) = vs.toArray := by rw [List.map_toArray, evs_on hρ ha]
  have h := run_callFunc_extern hf hname hb hn he vs.toArray w
  rw [hr] at h
  simp only [execOp, resolve, e1, e2]
  simp [Deferred.ofValue, invoke]
  exact h
/-- Where a byte stands first. -/
def idxB (s : List UInt8) (c : UInt8) : Int := Lib.indexByte s c
theorem runs_indexByteX {f : FuncId} {fo : Operand} {fn : Func} {x y : Operand} {ats : Array TypeId} {s : ByteArray} {c : UInt8} (hf : P.funcs[f]? = some fn) (hname : (fn.name == "runtime.NumGoroutine") = false)
    (hb : fn.body.isNone = true) (hn : Extern.findNext fn = none) (he : Extern.find fn = some Extern.BytealgIndexByte.indexByte) (hfo : ev l fo = some (.func (.func f) #[] #[])) (hx : ev l x = some (.string s)) (hy : ev l y = some (.int .u8 (c.toNat : Int))) :
    Runs P (.call ⟨.value fo, #[x, y], ats⟩) ty l w (.value (.int .i64 (idxB s.toList c))) w := by
  refine runs_extern (args := [x, y]) (vs := [.string s, .int .u8 (c.toNat : Int)]) hf hname hb hn he hfo (by simp [evs, hx, hy]) ?_
  have h := Lib.run_indexByteString (P := P) s (c.toNat : Int) w
  rw [show (c.toNat : Int).toNat.toUInt8 = c by simp, ← ByteArray.toList_eq] at h
  exact h

/-! ### Runes of a text, in plain words -/
open Go.Lib (decodeL decodeN)
def encL (r : Int) : List UInt8 := (Utf8.encode r).toList
def runesF : Nat → List UInt8 → List Nat
  | 0, _ => []
  | f + 1, l => if l = [] then [] else (decodeL l).1 :: runesF f (l.drop (decodeL l).2)
def runesL (l : List UInt8) : List Nat := runesF l.length l
theorem decodeL_w (l : List UInt8) : 1 ≤ (decodeL l).2 := Lib.width_pos _ _
theorem runesF_fuel : ∀ (n m : Nat) (l : List UInt8), l.length ≤ n → l.length ≤ m → runesF n l = runesF m l
  | 0, 0, _, _, _ => rfl
  | 0, m + 1, l, h, _ => by
    have : l = [] := List.eq_nil_of_length_eq_zero (by omega)
    rw [this]; rfl
  | n + 1, 0, l, _, h => by
    have : l = [] := List.eq_nil_of_length_eq_zero (by omega)
    rw [this]; rfl
  | n + 1, m + 1, l, h1, h2 => by
    by_cases hl : l = []
    · rw [hl]; rfl
    · have hw := decodeL_w l
      have hp : 0 < l.length := List.length_pos_iff.2 hl
      show (if l = [] then [] else _) = (if l = [] then [] else _)
      rw [if_neg hl, if_neg hl, runesF_fuel n m (l.drop (decodeL l).2) (by rw [List.length_drop]; omega) (by rw [List.length_drop]; omega)]
theorem runesL_nil : runesL [] = [] := rfl
theorem runesL_step {l : List UInt8} (hl : l ≠ []) : runesL l = (decodeL l).1 :: runesL (l.drop (decodeL l).2) := by
  have hp : 0 < l.length := List.length_pos_iff.2 hl
  have hw := decodeL_w l
  unfold runesL
  obtain ⟨n, hn⟩ : ∃ n, l.length = n + 1 := ⟨l.length - 1, by omega⟩
  rw [hn]
  show (if l = [] then [] else _) = _
  rw [if_neg hl, runesF_fuel n _ (l.drop (decodeL l).2) (by rw [List.length_drop]; omega) (Nat.le_refl _)]
/-- The runes from a place on. -/
def runesAt (s : ByteArray) (pos : Nat) : List Nat := runesL (s.toList.drop pos)
theorem runesAt_zero (s : ByteArray) : runesAt s 0 = runesL s.toList := by unfold runesAt; rw [List.drop_zero]
theorem runesAt_end {s : ByteArray} {pos : Nat} (h : ¬ pos < s.size) : runesAt s pos = [] := by
  unfold runesAt
  rw [List.drop_eq_nil_of_le (by rw [size_toList]; omega)]
  rfl
theorem runesAt_next {s : ByteArray} {pos : Nat} (h : pos < s.size) : runesAt s pos = (Utf8.decode s pos).1 :: runesAt s (nextP s pos) := by
  have hd : decodeL (s.toList.drop pos) = Utf8.decode s pos := by rw [ByteArray.toList_eq]; exact Lib.decodeL_drop s pos
  unfold runesAt nextP
  rw [if_pos h, runesL_step (by intro h0; have := congrArg List.length h0; rw [List.length_drop, size_toList] at this; simp at this; omega), hd, List.drop_drop]
theorem nextP_more {s : ByteArray} {pos : Nat} (h : pos < s.size) : pos < nextP s pos := by
  have := Lib.width_pos s pos
  unfold nextP
  rw [if_pos h]
  omega
theorem rune_le (s : ByteArray) (pos : Nat) : (Utf8.decode s pos).1 ≤ 1114111 := Lib.rune_le s pos
theorem encL_len (r : Int) : 1 ≤ (encL r).length ∧ (encL r).length ≤ 4 := by
  unfold encL
  rw [size_toList]
  unfold Utf8.encode
  dsimp only
  repeat' split
  all_goals (constructor <;> simp [ByteArray.size])
theorem encL_one {r : Int} (h0 : 0 ≤ r) (h1 : r < 128) : encL r = [u8 r] := by
  have hv : Utf8.valid r = true := by unfold Utf8.valid; simp; omega
  unfold encL Utf8.encode
  rw [ByteArray.toList_eq, if_pos hv]
  dsimp only
  rw [if_pos (by omega)]
  show [UInt8.ofNat r.toNat] = _
  congr 1
  apply UInt8.toNat_inj.1
  have := u8_toNat r
  simp
  omega
theorem byte_of (n : Nat) : (UInt8.ofNat n).toNat = n % 256 := by simp
/-- A rune that may be is decoded from its bytes, whatever stands behind. -/
theorem decode_enc {r : Nat} (hv : Utf8.valid (r : Int) = true) (rest : List UInt8) : decodeL (encL (r : Int) ++ rest) = (r, (encL (r : Int)).length) := by
  have hr : r < 55296 ∨ (57344 ≤ r ∧ r ≤ 1114111) := by
    unfold Utf8.valid at hv
    simp at hv
    omega
  rw [Lib.decodeL_N]
  unfold encL Utf8.encode
  rw [ByteArray.toList_eq, if_pos hv, Int.toNat_natCast]
  dsimp only
  by_cases h1 : r < 128
  · rw [if_pos h1]
    simp only [List.cons_append, List.nil_append, List.length_cons, List.getD_cons_zero, List.getD_cons_succ, byte_of]
    unfold decodeN
    rw [if_pos (by omega), Nat.mod_eq_of_lt (by omega)]
    rfl
  rw [if_neg h1]
  by_cases h2 : r < 2048
  · rw [if_pos h2]
    simp only [List.cons_append, List.nil_append, List.length_cons, List.getD_cons_zero, List.getD_cons_succ, byte_of]
    unfold decodeN
    rw [if_neg (by omega), if_pos (by omega), if_pos (by omega)]
    exact Prod.ext (by dsimp only; omega) rfl
  rw [if_neg h2]
  by_cases h3 : r < 65536
  · rw [if_pos h3]
    simp only [List.cons_append, List.nil_append, List.length_cons, List.getD_cons_zero, List.getD_cons_succ, byte_of]
    unfold decodeN
    rw [if_neg (by omega), if_neg (by omega), if_pos (by omega), if_pos (by omega)]
    exact Prod.ext (by dsimp only; omega) rfl
  · rw [if_neg h3]
    simp only [List.cons_append, List.nil_append, List.length_cons, List.getD_cons_zero, List.getD_cons_succ, byte_of]
    unfold decodeN
    rw [if_neg (by omega), if_neg (by omega), if_neg (by omega), if_pos (by omega), if_pos (by omega)]
    exact Prod.ext (by dsimp only; omega) rfl
theorem runes_enc {r : Nat} (hv : Utf8.valid (r : Int) = true) (rest : List UInt8) : runesL (encL (r : Int) ++ rest) = r :: runesL rest := by
  have hl := encL_len (r : Int)
  rw [runesL_step (by intro h; have := (List.append_eq_nil_iff.1 h).1; rw [this] at hl; simp at hl), decode_enc hv, List.drop_left]
theorem runes_encs : ∀ (rs : List Nat) (_ : ∀ r ∈ rs, Utf8.valid (r : Int) = true) (rest : List UInt8), runesL (rs.flatMap (fun (r : Nat) => encL (r : Int)) ++ rest) = rs ++ runesL rest
  | [], _, _ => rfl
  | r :: rs, h, rest => by
    rw [List.flatMap_cons, List.append_assoc, runes_enc (h r (List.mem_cons_self ..)), runes_encs rs (fun x hx => h x (List.mem_cons_of_mem _ hx)) rest]
    rfl
theorem decode_valid (l : List UInt8) : Utf8.valid ((decodeL l).1 : Int) = true := by
  have := Lib.rune_valid ⟨l.toArray⟩
  unfold Lib.validRune at this
  unfold Utf8.valid
  unfold decodeL
  generalize (Utf8.decode ⟨l.toArray⟩ 0).1 = r at this ⊢
  simp at this ⊢
  omega
theorem runes_valid : ∀ (n : Nat) (l : List UInt8), ∀ r ∈ runesF n l, Utf8.valid (r : Int) = true
  | 0, _, r, h => absurd h (List.not_mem_nil)
  | n + 1, l, r, h => by
    change r ∈ (if l = [] then [] else _) at h
    split at h
    · exact absurd h (List.not_mem_nil)
    · rcases List.mem_cons.1 h with rfl | h
      · exact decode_valid l
      · exact runes_valid n _ r h
/-- Small bytes are their own runes. -/
theorem runes_ascii : ∀ (l : List UInt8) (_ : ∀ c ∈ l, c.toNat < 128), runesL l = l.map (·.toNat)
  | [], _ => rfl
  | c :: l, h => by
    have hc := h c (List.mem_cons_self ..)
    have he : encL ((c.toNat : Nat) : Int) = [c] := by rw [encL_one (by omega) (by omega), u8_of]
    have := runes_enc (r := c.toNat) (by unfold Utf8.valid; simp; omega) l
    rw [he] at this
    rw [show c :: l = [c] ++ l from rfl, this, runes_ascii l fun x hx => h x (List.mem_cons_of_mem _ hx)]
    rfl
end Go.Proofs.YtlmmpcdjkpibcaaX
