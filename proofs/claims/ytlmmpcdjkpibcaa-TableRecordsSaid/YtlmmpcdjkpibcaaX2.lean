/- The rules for numbers, strings, slices, what is made and appended. Own lemmas, no program in sight. -/
import Derived.Test.YtlmmpcdjkpibcaaX1
import Derived.WalkLawsBesides
namespace Go.Proofs.YtlmmpcdjkpibcaaX
set_option linter.unusedVariables false
set_option linter.unusedSimpArgs false
open Go Go.RowKit
variable {w0 w : World} {I : Imm} {L : Own} {P : Program} {l : Env} {ty : TypeId}

/-! ### Numbers -/
theorem Addr.add_add (a : Addr) (m n : Nat) : (a.add m).add n = a.add (m + n) := by
  unfold Addr.add
  by_cases h : m = 0
  · subst h; simp
  · by_cases h' : n = 0
    · subst h'; simp [h]
    · simp [h, h', Nat.add_assoc]
theorem add_lit (b off n : Nat) : ((⟨b, off, none⟩ : Addr).add n) = ⟨b, off + n, none⟩ := by unfold Addr.add; split <;> simp_all
/-- An operation on two numbers of one kind. -/
theorem runs_int {op : BinOp} {t t' : TypeId} {x y : Operand} {k : IntKind} {a b : Int} {v : Value} (hx : ev l x = some (.int k a)) (hy : ev l y = some (.int k b))
    (h : (binOp op t (.int k a) (.int k b)).run P w = .ok v w) : Runs P (.binOp op t x y t') ty l w (.value v) w :=
  .of (fun ρ => do eqGuard op t x y (ρ x) (ρ y); binOp op t (ρ x) (ρ y)) (fun _ _ _ _ _ => rfl) fun ρ hρ => by
    have hg : (eqGuard op t x y (.int k a) (.int k b)).run P w = .ok () w := by
      cases op <;> rfl
    simp only [hρ x _ hx, hρ y _ hy, Sem.run_bind, hg]
    exact h
theorem wrap_i64 {n : Int} (h : -9223372036854775808 ≤ n ∧ n ≤ 9223372036854775807) : IntKind.i64.wrap n = n := by
  rw [IntKind.wrap_i64]; omega
theorem runs_add {t t' : TypeId} {x y : Operand} {a b : Int} (hx : ev l x = some (.int .i64 a)) (hy : ev l y = some (.int .i64 b)) (h : -9223372036854775808 ≤ a + b ∧ a + b ≤ 9223372036854775807) :
    Runs P (.binOp .add t x y t') ty l w (.value (.int .i64 (a + b))) w := runs_int hx hy (by simp [binOp, Op.intArith, wrap_i64 h, go_sem])
theorem runs_sub {t t' : TypeId} {x y : Operand} {a b : Int} (hx : ev l x = some (.int .i64 a)) (hy : ev l y = some (.int .i64 b)) (h : -9223372036854775808 ≤ a - b ∧ a - b ≤ 9223372036854775807) :
    Runs P (.binOp .sub t x y t') ty l w (.value (.int .i64 (a - b))) w := runs_int hx hy (by simp [binOp, Op.intArith, wrap_i64 h, go_sem])
theorem runs_mul {t t' : TypeId} {x y : Operand} {a b : Int} (hx : ev l x = some (.int .i64 a)) (hy : ev l y = some (.int .i64 b)) (h : -9223372036854775808 ≤ a * b ∧ a * b ≤ 9223372036854775807) :
    Runs P (.binOp .mul t x y t') ty l w (.value (.int .i64 (a * b))) w := runs_int hx hy (by simp [binOp, Op.intArith, wrap_i64 h, go_sem])
/-- Of whatever kind, wrapped. -/
theorem runs_addW {t t' : TypeId} {x y : Operand} {k : IntKind} {a b : Int} (hx : ev l x = some (.int k a)) (hy : ev l y = some (.int k b)) :
    Runs P (.binOp .add t x y t') ty l w (.value (.int k (k.wrap (a + b)))) w := runs_int hx hy (by simp [binOp, Op.intArith, go_sem])
theorem runs_subW {t t' : TypeId} {x y : Operand} {k : IntKind} {a b : Int} (hx : ev l x = some (.int k a)) (hy : ev l y = some (.int k b)) :
    Runs P (.binOp .sub t x y t') ty l w (.value (.int k (k.wrap (a - b)))) w := runs_int hx hy (by simp [binOp, Op.intArith, go_sem])
theorem runs_mulW {t t' : TypeId} {x y : Operand} {k : IntKind} {a b : Int} (hx : ev l x = some (.int k a)) (hy : ev l y = some (.int k b)) :
    Runs P (.binOp .mul t x y t') ty l w (.value (.int k (k.wrap (a * b)))) w := runs_int hx hy (by simp [binOp, Op.intArith, go_sem])
theorem runs_quo {t t' : TypeId} {x y : Operand} {k : IntKind} {a b : Int} (hx : ev l x = some (.int k a)) (hy : ev l y = some (.int k b)) (h : b ≠ 0) :
    Runs P (.binOp .quo t x y t') ty l w (.value (.int k (k.wrap (a.tdiv b)))) w := runs_int hx hy (by simp [binOp, Op.intDiv, h, go_sem])
theorem runs_rem {t t' : TypeId} {x y : Operand} {k : IntKind} {a b : Int} (hx : ev l x = some (.int k a)) (hy : ev l y = some (.int k b)) (h : b ≠ 0) :
    Runs P (.binOp .rem t x y t') ty l w (.value (.int k (a.tmod b))) w := runs_int hx hy (by simp [binOp, Op.intDiv, h, go_sem])
def bitop (op : BinOp) (k : IntKind) (x y : Int) : Int := match op with
  | .and => k.wrap ((BitVec.ofInt k.bits x) &&& (BitVec.ofInt k.bits y)).toNat
  | .or => k.wrap ((BitVec.ofInt k.bits x) ||| (BitVec.ofInt k.bits y)).toNat
  | .xor => k.wrap ((BitVec.ofInt k.bits x) ^^^ (BitVec.ofInt k.bits y)).toNat
  | _ => 0
theorem runs_and {t t' : TypeId} {x y : Operand} {k : IntKind} {a b : Int} (hx : ev l x = some (.int k a)) (hy : ev l y = some (.int k b)) :
    Runs P (.binOp .and t x y t') ty l w (.value (.int k (bitop .and k a b))) w := runs_int hx hy (by simp [binOp, Op.intBits, bitop, pure])
theorem runs_or {t t' : TypeId} {x y : Operand} {k : IntKind} {a b : Int} (hx : ev l x = some (.int k a)) (hy : ev l y = some (.int k b)) :
    Runs P (.binOp .or t x y t') ty l w (.value (.int k (bitop .or k a b))) w := runs_int hx hy (by simp [binOp, Op.intBits, bitop, pure])
theorem runs_xor {t t' : TypeId} {x y : Operand} {k : IntKind} {a b : Int} (hx : ev l x = some (.int k a)) (hy : ev l y = some (.int k b)) :
    Runs P (.binOp .xor t x y t') ty l w (.value (.int k (bitop .xor k a b))) w := runs_int hx hy (by simp [binOp, Op.intBits, bitop, pure])
theorem runs_shift {op : BinOp} {t t' : TypeId} {x y : Operand} {k yk : IntKind} {a b : Int} {v : Value} (hop : op = .shl ∨ op = .shr) (hx : ev l x = some (.int k a)) (hy : ev l y = some (.int yk b))
    (h : (Op.shift op k a yk b).run P w = .ok v w) : Runs P (.binOp op t x y t') ty l w (.value v) w :=
  .of (fun ρ => do eqGuard op t x y (ρ x) (ρ y); binOp op t (ρ x) (ρ y)) (fun _ _ _ _ _ => rfl) fun ρ hρ => by
    rcases hop with rfl | rfl <;> (simp only [hρ x _ hx, hρ y _ hy]; exact h)
theorem runs_shl {t t' : TypeId} {x y : Operand} {k yk : IntKind} {a : Int} {n : Nat} (hx : ev l x = some (.int k a)) (hy : ev l y = some (.int yk (n : Int))) (h : n ≤ k.bits) :
    Runs P (.binOp .shl t x y t') ty l w (.value (.int k (k.wrap (a * 2 ^ n)))) w := runs_shift (.inl rfl) hx hy (by
      unfold Op.shift; rw [if_neg (by omega), Int.toNat_natCast, Nat.min_eq_left h]; rfl)
theorem runs_shr {t t' : TypeId} {x y : Operand} {k yk : IntKind} {a : Int} {n : Nat} (hx : ev l x = some (.int k a)) (hy : ev l y = some (.int yk (n : Int))) (h : n ≤ k.bits) :
    Runs P (.binOp .shr t x y t') ty l w (.value (.int k (a.fdiv (2 ^ n)))) w := runs_shift (.inr rfl) hx hy (by
      unfold Op.shift; rw [if_neg (by omega), Int.toNat_natCast, Nat.min_eq_left h]; rfl)
theorem runs_eqI {t t' : TypeId} {x y : Operand} {k : IntKind} {a b : Int} (hx : ev l x = some (.int k a)) (hy : ev l y = some (.int k b)) :
    Runs P (.binOp .eql t x y t') ty l w (.value (.bool (decide (a = b)))) w := runs_int hx hy (by simp [binOp, Op.intCmp, go_sem]; rfl)
theorem runs_neI {t t' : TypeId} {x y : Operand} {k : IntKind} {a b : Int} (hx : ev l x = some (.int k a)) (hy : ev l y = some (.int k b)) :
    Runs P (.binOp .neq t x y t') ty l w (.value (.bool (decide (a ≠ b)))) w := runs_int hx hy (by simp [binOp, Op.intCmp, go_sem]; rfl)
theorem runs_lss {t t' : TypeId} {x y : Operand} {k : IntKind} {a b : Int} (hx : ev l x = some (.int k a)) (hy : ev l y = some (.int k b)) :
    Runs P (.binOp .lss t x y t') ty l w (.value (.bool (decide (a < b)))) w := runs_int hx hy (by simp [binOp, Op.intCmp, go_sem])
theorem runs_leq {t t' : TypeId} {x y : Operand} {k : IntKind} {a b : Int} (hx : ev l x = some (.int k a)) (hy : ev l y = some (.int k b)) :
    Runs P (.binOp .leq t x y t') ty l w (.value (.bool (decide (a ≤ b)))) w := runs_int hx hy (by simp [binOp, Op.intCmp, go_sem])
theorem runs_gtr {t t' : TypeId} {x y : Operand} {k : IntKind} {a b : Int} (hx : ev l x = some (.int k a)) (hy : ev l y = some (.int k b)) :
    Runs P (.binOp .gtr t x y t') ty l w (.value (.bool (decide (b < a)))) w := runs_int hx hy (by simp [binOp, Op.intCmp, go_sem])
theorem runs_geq {t t' : TypeId} {x y : Operand} {k : IntKind} {a b : Int} (hx : ev l x = some (.int k a)) (hy : ev l y = some (.int k b)) :
    Runs P (.binOp .geq t x y t') ty l w (.value (.bool (decide (b ≤ a)))) w := runs_int hx hy (by simp [binOp, Op.intCmp, go_sem])
theorem runs_eqB {t t' : TypeId} {x y : Operand} {a b : Bool} (ht : P.underlying t = some .bool) (hx : ev l x = some (.bool a)) (hy : ev l y = some (.bool b)) :
    Runs P (.binOp .eql t x y t') ty l w (.value (.bool (a == b))) w :=
  .of (fun ρ => do eqGuard .eql t x y (ρ x) (ρ y); binOp .eql t (ρ x) (ρ y)) (fun _ _ _ _ _ => rfl) fun ρ hρ => by
    have hg : (eqGuard .eql t x y (.bool a) (.bool b)).run P w = .ok () w := rfl
    simp only [hρ x _ hx, hρ y _ hy, Sem.run_bind, hg]
    exact run_eql_bool w t a b ht
theorem runs_neB {t t' : TypeId} {x y : Operand} {a b : Bool} (ht : P.underlying t = some .bool) (hx : ev l x = some (.bool a)) (hy : ev l y = some (.bool b)) :
    Runs P (.binOp .neq t x y t') ty l w (.value (.bool (!(a == b)))) w :=
  .of (fun ρ => do eqGuard .neq t x y (ρ x) (ρ y); binOp .neq t (ρ x) (ρ y)) (fun _ _ _ _ _ => rfl) fun ρ hρ => by
    have hg : (eqGuard .neq t x y (.bool a) (.bool b)).run P w = .ok () w := rfl
    simp only [hρ x _ hx, hρ y _ hy, Sem.run_bind, hg]
    exact run_neq_bool w t a b ht
theorem runs_not {t : TypeId} {x : Operand} {b : Bool} (hx : ev l x = some (.bool b)) : Runs P (.unOp .not t x) ty l w (.value (.bool !b)) w :=
  .of (fun ρ => Op.unary .not (ρ x)) (fun _ _ _ _ _ => rfl) fun ρ hρ => by simp [hρ x _ hx, Op.unary, go_sem]
theorem runs_neg {t : TypeId} {x : Operand} {a : Int} (hx : ev l x = some (.int .i64 a)) (h : -9223372036854775807 ≤ a ∧ a ≤ 9223372036854775807) : Runs P (.unOp .neg t x) ty l w (.value (.int .i64 (-a))) w :=
  .of (fun ρ => Op.unary .neg (ρ x)) (fun _ _ _ _ _ => rfl) fun ρ hρ => by
    have : IntKind.i64.wrap (0 - a) = -a := by rw [wrap_i64 (by omega)]; omega
    simp only [hρ x _ hx, Op.unary, Op.intArith, this]
    rfl
theorem runs_negW {t : TypeId} {x : Operand} {k : IntKind} {a : Int} (hx : ev l x = some (.int k a)) : Runs P (.unOp .neg t x) ty l w (.value (.int k (k.wrap (0 - a)))) w :=
  .of (fun ρ => Op.unary .neg (ρ x)) (fun _ _ _ _ _ => rfl) fun ρ hρ => by
    simp only [hρ x _ hx, Op.unary, Op.intArith]
    rfl
theorem runs_convI {s d : TypeId} {x : Operand} {j k : IntKind} {a : Int} (hs : (P.underlying s).isSome = true) (hd : P.underlying d = some (.int k)) (hx : ev l x = some (.int j a)) :
    Runs P (.convert s d x) ty l w (.value (.int k (k.wrap a))) w :=
  .of (fun ρ => convert s d (ρ x)) (fun _ _ _ _ _ => rfl) fun ρ hρ => by
    obtain ⟨ds, hds⟩ := Option.isSome_iff_exists.1 hs
    unfold convert
    simp [hρ x _ hx, go_sem, run_underlying hds, run_underlying hd, Conv.intToInt]
theorem Runs.bi {b : Builtin} {args : List Operand} {ats : Array TypeId} {vs : List Value} {v : Value} {w' : World} (ha : evs l args = some vs)
    (h : ∀ consts, (builtin b ats ty consts vs.toArray).run P w = .ok (.value v) w') : Runs P (.call ⟨.builtin b, args.toArray, ats⟩) ty l w (.value v) w' := fun ρ hρ _ _ _ _ => by
  have e2 : (args.toArray.map ρ) = vs.toArray := by rw [List.map_toArray, evs_on hρ ha]
  show (do let d ← resolve ρ ⟨.builtin b, args.toArray, ats⟩ ty; invoke d.target d.args : Sem Next).run P w = _
  unfold resolve
  simp only [e2]
  exact h _
theorem runs_max {x y : Operand} {ats : Array TypeId} {k : IntKind} {a b : Int} (hx : ev l x = some (.int k a)) (hy : ev l y = some (.int k b)) :
    Runs P (.call ⟨.builtin .max, #[x, y], ats⟩) ty l w (.value (.int k (if b > a then b else a))) w :=
  Runs.bi (args := [x, y]) (vs := [.int k a, .int k b]) (by simp [evs, hx, hy]) fun consts => by
    have := run_max_int2 (P := P) w ats ty k k a b
    simp only [builtin, Sem.run_bind, this]; rfl
theorem runs_min {x y : Operand} {ats : Array TypeId} {k : IntKind} {a b : Int} (hx : ev l x = some (.int k a)) (hy : ev l y = some (.int k b)) :
    Runs P (.call ⟨.builtin .min, #[x, y], ats⟩) ty l w (.value (.int k (if b < a then b else a))) w :=
  Runs.bi (args := [x, y]) (vs := [.int k a, .int k b]) (by simp [evs, hx, hy]) fun consts => by
    have := run_min_int2 (P := P) w ats ty k k a b
    simp only [builtin, Sem.run_bind, this]; rfl

/-! ### Strings -/
theorem runs_indexS {t : TypeId} {x y : Operand} {k : IntKind} {s : ByteArray} {i : Int} (ht : P.underlying t = some .string) (hx : ev l x = some (.string s)) (hy : ev l y = some (.int k i)) (h0 : 0 ≤ i) (h1 : i < s.size) :
    Runs P (.index t x y) ty l w (.value (.int .u8 (s[i.toNat]'(by omega)).toNat)) w :=
  .of (fun ρ => Instr.index t (ρ x) (ρ y)) (fun _ _ _ _ _ => rfl) fun ρ hρ => by
    have hs : s[i.toNat]? = some (s[i.toNat]'(by omega)) := by simp
    simp [hρ x _ hx, hρ y _ hy, Instr.index, go_sem, run_underlying ht, asIntOf, h0, hs]
theorem runs_lenS {t : TypeId} {x : Operand} {s : ByteArray} (ht : P.underlying t = some .string) (hx : ev l x = some (.string s)) :
    Runs P (.call ⟨.builtin .len, #[x], #[t]⟩) ty l w (.value (.int .i64 s.size)) w :=
  Runs.bi (args := [x]) (vs := [.string s]) (by simp [evs, hx]) fun consts => by
    have := run_len_string (P := P) w t ty s ht
    simp only [builtin, Sem.run_bind, this]; rfl
theorem runs_eqS {t t' : TypeId} {x y : Operand} {a b : ByteArray} (hx : ev l x = some (.string a)) (hy : ev l y = some (.string b)) :
    Runs P (.binOp .eql t x y t') ty l w (.value (.bool (a.toList == b.toList))) w :=
  .of (fun ρ => do eqGuard .eql t x y (ρ x) (ρ y); binOp .eql t (ρ x) (ρ y)) (fun _ _ _ _ _ => rfl) fun ρ hρ => by
    simp only [hρ x _ hx, hρ y _ hy]; rfl
theorem runs_neS {t t' : TypeId} {x y : Operand} {a b : ByteArray} (hx : ev l x = some (.string a)) (hy : ev l y = some (.string b)) :
    Runs P (.binOp .neq t x y t') ty l w (.value (.bool (!(a.toList == b.toList)))) w :=
  .of (fun ρ => do eqGuard .neq t x y (ρ x) (ρ y); binOp .neq t (ρ x) (ρ y)) (fun _ _ _ _ _ => rfl) fun ρ hρ => by
    simp only [hρ x _ hx, hρ y _ hy]; rfl
theorem runs_addS {t t' : TypeId} {x y : Operand} {a b : ByteArray} (hx : ev l x = some (.string a)) (hy : ev l y = some (.string b)) (h : a.size + b.size ≤ 9223372036854775807) :
    Runs P (.binOp .add t x y t') ty l w (.value (.string (a ++ b))) w :=
  .of (fun ρ => do eqGuard .add t x y (ρ x) (ρ y); binOp .add t (ρ x) (ρ y)) (fun _ _ _ _ _ => rfl) fun ρ hρ => by
    have : ¬ ((a.size + b.size : Nat) : Int) > IntKind.i64.max := by
      show ¬ _ > (9223372036854775807 : Int)
      omega
    have h2 : (Op.stringOp .add a b).run P w = .ok (.string (a ++ b)) w := by
      unfold Op.stringOp
      simp only []
      rw [if_neg this]
      rfl
    simp only [hρ x _ hx, hρ y _ hy]
    exact h2
end Go.Proofs.YtlmmpcdjkpibcaaX
