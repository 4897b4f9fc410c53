/- Plain functions: sectors, and what they say. No program in sight. -/
import Derived.Test.YtfdgnjbbchkgpaaDoorX8
import Derived.Test.YtfdgnjbbchkgpaaDoorM0
namespace Go.Proofs.YtfdgnjbbchkgpaaDoorX
set_option linter.unusedVariables false
open Go Go.RowKit
attribute [local simp] two_length three_length
variable {w : World} {P : Program} {l : Env} {ty : TypeId}

theorem or_nat (X Y : Nat) (hX : X < 2 ^ 62) (hY : Y < 2 ^ 62) : bitop .or .i64 (X : Int) (Y : Int) = ((X ||| Y : Nat) : Int) := by
  have h : X ||| Y < 2 ^ 62 := Nat.or_lt_two_pow hX hY
  show IntKind.i64.wrap (((BitVec.ofInt 64 (X : Int)) ||| (BitVec.ofInt 64 (Y : Int))).toNat : Int) = _
  rw [BitVec.ofInt_natCast, BitVec.ofInt_natCast, BitVec.toNat_or, BitVec.toNat_ofNat, BitVec.toNat_ofNat, Nat.mod_eq_of_lt (by omega), Nat.mod_eq_of_lt (by omega)]
  exact wrap_i64 (by omega)
theorem or_add {A B n : Nat} (hA : A * 2 ^ n < 2 ^ 62) (hB : B < 2 ^ n) (hn : n ≤ 60) : bitop .or .i64 ((A : Int) * 2 ^ n) (B : Int) = (A : Int) * 2 ^ n + B := by
  have h2 : (2 : Nat) ^ n ≤ 2 ^ 60 := Nat.pow_le_pow_right (by decide) hn
  have h := or_nat (A * 2 ^ n) B hA (by omega)
  have e : ((A * 2 ^ n : Nat) : Int) = (A : Int) * 2 ^ n := by push_cast; rfl
  rw [← e, h]
  have h3 := Nat.two_pow_add_eq_or_of_lt hB A
  rw [Nat.mul_comm A, ← h3]
  push_cast
  rfl
def batN (bs : List UInt8) (i : Int) : Nat := (bs.getD i.toNat 0).toNat
theorem bat_N (bs : List UInt8) (i : Int) : bat bs i = (batN bs i : Int) := rfl
theorem batN_lt (bs : List UInt8) (i : Int) : batN bs i < 256 := (bs.getD i.toNat 0).toNat_lt
theorem runs_shlBat {t t' : TypeId} {x y : Operand} {bs : List UInt8} {i : Int} {n : Nat} (hx : ev l x = some (.int .i64 (bat bs i))) (hy : ev l y = some (.int .u64 (n : Int))) (h : n ≤ 40) :
    Runs P (.binOp .shl t x y t') ty l w (.value (.int .i64 (bat bs i * 2 ^ n))) w := by
  have h0 := runs_shl (w := w) (ty := ty) (P := P) (t := t) (t' := t') hx hy (by show n ≤ 64; omega)
  have h1 : (2 : Int) ^ n ≤ 2 ^ 40 := by
    have : (2 : Nat) ^ n ≤ 2 ^ 40 := Nat.pow_le_pow_right (by decide) h
    have h2 : ((2 ^ n : Nat) : Int) = (2 : Int) ^ n := by push_cast; rfl
    omega
  have h3 : (0 : Int) ≤ 2 ^ n := Int.pow_nonneg (by decide)
  have hb := bat_lt bs i
  have h4 : bat bs i * 2 ^ n ≤ 255 * 2 ^ 40 := Int.mul_le_mul hb.2 h1 h3 (by decide)
  have h5 : 0 ≤ bat bs i * 2 ^ n := Int.mul_nonneg hb.1 h3
  rw [wrap_i64 ⟨by omega, by omega⟩] at h0
  exact h0
theorem runs_or2 {t t' : TypeId} {x y : Operand} {s s' : List UInt8} {i j : Int} (hx : ev l x = some (.int .i64 (bat s i * 2 ^ 8))) (hy : ev l y = some (.int .i64 (bat s' j))) :
    Runs P (.binOp .or t x y t') ty l w (.value (.int .i64 (bat s i * 2 ^ 8 + bat s' j))) w := by
  have h := runs_or (w := w) (ty := ty) (P := P) (t := t) (t' := t') hx hy
  have h1 := batN_lt s i
  have h2 := batN_lt s' j
  rw [bat_N, bat_N, or_add (by omega) (by omega) (by decide)] at h
  exact h
theorem runs_or3a {t t' : TypeId} {x y : Operand} {s s' : List UInt8} {i j : Int} (hx : ev l x = some (.int .i64 (bat s i * 2 ^ 16))) (hy : ev l y = some (.int .i64 (bat s' j * 2 ^ 8))) :
    Runs P (.binOp .or t x y t') ty l w (.value (.int .i64 (bat s i * 2 ^ 16 + bat s' j * 2 ^ 8))) w := by
  have h := runs_or (w := w) (ty := ty) (P := P) (t := t) (t' := t') hx hy
  have h1 := batN_lt s i
  have h2 := batN_lt s' j
  have e : ((batN s' j : Int) * 2 ^ 8) = ((batN s' j * 2 ^ 8 : Nat) : Int) := by omega
  rw [bat_N, bat_N, e, or_add (by omega) (by omega) (by decide)] at h
  rw [bat_N, bat_N, e]
  exact h
theorem runs_or3b {t t' : TypeId} {x y : Operand} {s s' s'' : List UInt8} {i j k : Int} (hx : ev l x = some (.int .i64 (bat s i * 2 ^ 16 + bat s' j * 2 ^ 8))) (hy : ev l y = some (.int .i64 (bat s'' k))) :
    Runs P (.binOp .or t x y t') ty l w (.value (.int .i64 (bat s i * 2 ^ 16 + bat s' j * 2 ^ 8 + bat s'' k))) w := by
  have h := runs_or (w := w) (ty := ty) (P := P) (t := t) (t' := t') hx hy
  have h1 := batN_lt s i
  have h2 := batN_lt s' j
  have h3 := batN_lt s'' k
  have e : ((batN s i : Int) * 2 ^ 16 + (batN s' j : Int) * 2 ^ 8) = ((batN s i * 2 ^ 8 + batN s' j : Nat) : Int) * 2 ^ 8 := by omega
  rw [bat_N, bat_N, bat_N, e, or_add (by omega) (by omega) (by decide)] at h
  rw [bat_N, bat_N, bat_N, e]
  exact h
structure OpenR where
  e : Int
  q : Int
  p : Int
  n : Int
  b : List UInt8
  err : Int
def epochOf (s : List UInt8) : Int := bat s 0 * 2 ^ 8 + bat s 1
def seqOf (s : List UInt8) : Int := bat s 2 * 2 ^ 16 + bat s 3 * 2 ^ 8 + bat s 4
def bodyOf (s : List UInt8) : List UInt8 := (s.drop 8).take (batN s 7)
def openOk (s : List UInt8) : Bool := decide (s.length = 32) && decide (bat s 7 ≤ 19) && sealM (epochOf s) (seqOf s) (bat s 5) (bat s 6) (bodyOf s) && decide (sealB (epochOf s) (seqOf s) (bat s 5) (bat s 6) (bodyOf s) = s)
def openR (s : List UInt8) : OpenR := if openOk s then ⟨epochOf s, seqOf s, bat s 5, bat s 6, bodyOf s, 0⟩ else ⟨0, 0, 0, 0, [], 2⟩
theorem openR_bad {s : List UInt8} (h : openOk s = false) : openR s = ⟨0, 0, 0, 0, [], 2⟩ := by unfold openR; rw [h]; rfl
theorem openR_ok {s : List UInt8} (h : openOk s = true) : openR s = ⟨epochOf s, seqOf s, bat s 5, bat s 6, bodyOf s, 0⟩ := by unfold openR; rw [h]; rfl
theorem body_of (s : List UInt8) : (s.drop 8).take ((8 + bat s 7).toNat - 8) = bodyOf s := by
  unfold bodyOf
  rw [show (8 + bat s 7).toNat - 8 = batN s 7 from by have := bat_N s 7; omega]
theorem bodyOf_length (s : List UInt8) : (bodyOf s).length ≤ s.length := by unfold bodyOf; rw [List.length_take, List.length_drop]; omega
theorem openOk_len {s : List UInt8} (h : s.length ≠ 32) : openOk s = false := by unfold openOk; simp [h]
theorem openOk_long {s : List UInt8} (h : 19 < bat s 7) : openOk s = false := by
  unfold openOk
  have : ¬ bat s 7 ≤ 19 := by omega
  simp [this]
theorem openOk_mark {s : List UInt8} (h : sealM (epochOf s) (seqOf s) (bat s 5) (bat s 6) (bodyOf s) = false) : openOk s = false := by unfold openOk; simp [h]
theorem openOk_ne {s : List UInt8} (h : sealB (epochOf s) (seqOf s) (bat s 5) (bat s 6) (bodyOf s) ≠ s) : openOk s = false := by unfold openOk; simp [h]
theorem openOk_all {s : List UInt8} (h1 : s.length = 32) (h2 : bat s 7 ≤ 19) (h3 : sealM (epochOf s) (seqOf s) (bat s 5) (bat s 6) (bodyOf s) = true) (h4 : sealB (epochOf s) (seqOf s) (bat s 5) (bat s 6) (bodyOf s) = s) : openOk s = true := by
  unfold openOk; simp [h1, h2, h3, h4]
theorem sealB_length {e s p n : Int} {b : List UInt8} (h : b.length ≤ 19) : (sealB e s p n b).length = 32 := by
  simp only [sealB, two, three, List.length_append, List.length_cons, List.length_nil, List.length_replicate]; omega
/-- The bytes that a number makes. -/
def byteAt (n : Int) (i : Nat) : UInt8 := u8 (IntKind.i64.wrap (n + IntKind.i64.wrap ((i : Int) * bitop .or .i64 (IntKind.i64.wrap (n.tdiv 5)) 1)))
def bytesOf (n size : Int) : List UInt8 := (List.range size.toNat).map (byteAt n)
theorem bytesOf_length (n size : Int) : (bytesOf n size).length = size.toNat := by simp [bytesOf]
def bytesTo (n : Int) (m k : Nat) : List UInt8 := (List.range k).map (byteAt n) ++ List.replicate (m - k) 0
theorem bytesTo_length {n : Int} {m k : Nat} (h : k ≤ m) : (bytesTo n m k).length = m := by simp [bytesTo]; omega
theorem bytesTo_zero (n : Int) (m : Nat) : bytesTo n m 0 = List.replicate m 0 := by simp [bytesTo]
theorem bytesTo_end (n : Int) (m : Nat) : bytesTo n m m = (List.range m).map (byteAt n) := by simp [bytesTo]
theorem bytesTo_set {n : Int} {m k : Nat} (h : k < m) : (bytesTo n m k).set k (byteAt n k) = bytesTo n m (k + 1) := by
  unfold bytesTo
  have hl : ((List.range k).map (byteAt n)).length = k := by simp
  rw [List.set_append_right _ _ (by omega), hl, Nat.sub_self, List.range_succ, List.map_append]
  obtain ⟨r, hr⟩ : ∃ r, m - k = r + 1 := ⟨m - k - 1, by omega⟩
  rw [hr, show m - (k + 1) = r by omega, List.replicate_succ]
  simp
end Go.Proofs.YtfdgnjbbchkgpaaDoorX
