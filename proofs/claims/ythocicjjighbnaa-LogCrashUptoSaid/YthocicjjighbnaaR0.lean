/- Sums, records over sectors: in plain words. Own lemmas, no program in sight. -/
import Derived.Test.YthocicjjighbnaaM2
import Derived.Test.YthocicjjighbnaaD0
namespace Go.Proofs.YthocicjjighbnaaX
set_option linter.unusedVariables false
set_option linter.unusedSimpArgs false
open Go Go.RowKit
variable {w0 w : World} {I : Imm} {L : Own} {P : Program} {l : Env} {ty : TypeId}

def polyN : Nat := 3988292384
def onesN : Nat := 4294967295
def crcBit (x : Nat) : Nat := if x % 2 = 1 then (x / 2) ^^^ polyN else x / 2
def crcBits : Nat → Nat → Nat
  | 0, x => x
  | k + 1, x => crcBits k (crcBit x)
def crcByte (x : Nat) (c : UInt8) : Nat := crcBits 8 (x ^^^ c.toNat)
def crcTo (bs : List UInt8) (k : Nat) : Nat := (bs.take k).foldl crcByte onesN
def crcN (bs : List UInt8) : Nat := bs.foldl crcByte onesN
def sumN (bs : List UInt8) : Nat := crcN bs ^^^ onesN
theorem xor_lt32 {x y : Nat} (hx : x < 4294967296) (hy : y < 4294967296) : x ^^^ y < 4294967296 := Nat.xor_lt_two_pow (n := 32) hx hy
theorem crcBit_lt {x : Nat} (h : x < 4294967296) : crcBit x < 4294967296 := by
  unfold crcBit
  split
  · exact xor_lt32 (by omega) (by decide)
  · omega
theorem crcBits_lt : ∀ (k : Nat) {x : Nat}, x < 4294967296 → crcBits k x < 4294967296
  | 0, x, h => h
  | k + 1, x, h => crcBits_lt k (crcBit_lt h)
theorem crcBits_succ : ∀ (k x : Nat), crcBits (k + 1) x = crcBit (crcBits k x)
  | 0, x => rfl
  | k + 1, x => by
    show crcBits (k + 1) (crcBit x) = _
    rw [crcBits_succ k (crcBit x)]
    rfl
theorem crcByte_lt {x : Nat} (h : x < 4294967296) (c : UInt8) : crcByte x c < 4294967296 := crcBits_lt 8 (xor_lt32 h (by have := c.toNat_lt; omega))
theorem crc_fold_lt : ∀ (bs : List UInt8) {x : Nat}, x < 4294967296 → bs.foldl crcByte x < 4294967296
  | [], x, h => h
  | c :: r, x, h => crc_fold_lt r (crcByte_lt h c)
theorem crcTo_lt (bs : List UInt8) (k : Nat) : crcTo bs k < 4294967296 := crc_fold_lt _ (by decide)
theorem sumN_lt (bs : List UInt8) : sumN bs < 4294967296 := xor_lt32 (crc_fold_lt bs (by decide)) (by decide)
theorem crcTo_next {bs : List UInt8} {k : Nat} (hk : k < bs.length) : crcTo bs (k + 1) = crcByte (crcTo bs k) bs[k] := by
  unfold crcTo
  rw [List.take_add_one, List.getElem?_eq_getElem hk, Option.toList_some, List.foldl_append]
  rfl
theorem crcTo_end {bs : List UInt8} {k : Nat} (h : bs.length ≤ k) : crcTo bs k = crcN bs := by
  unfold crcTo crcN
  rw [List.take_of_length_le h]
theorem bv32 {x : Nat} (h : x < 4294967296) : (BitVec.ofInt 32 (x : Int)) = BitVec.ofNat 32 x := by
  apply BitVec.eq_of_toNat_eq
  simp [BitVec.toNat_ofInt]
theorem xor32 {x y : Nat} (hx : x < 4294967296) (hy : y < 4294967296) : bitop .xor .u32 (x : Int) (y : Int) = ((x ^^^ y : Nat) : Int) := by
  have h := xor_lt32 hx hy
  show IntKind.u32.wrap (((BitVec.ofInt 32 (x : Int)) ^^^ (BitVec.ofInt 32 (y : Int))).toNat : Int) = _
  rw [bv32 hx, bv32 hy, BitVec.toNat_xor, BitVec.toNat_ofNat, BitVec.toNat_ofNat, Nat.mod_eq_of_lt (show x < 2 ^ 32 from hx), Nat.mod_eq_of_lt (show y < 2 ^ 32 from hy), IntKind.wrap_u32]
  omega
theorem and1_32 {x : Nat} (hx : x < 4294967296) : bitop .and .u32 (x : Int) 1 = ((x % 2 : Nat) : Int) := by
  show IntKind.u32.wrap (((BitVec.ofInt 32 (x : Int)) &&& (BitVec.ofInt 32 ((1 : Nat) : Int))).toNat : Int) = _
  rw [bv32 hx, bv32 (by decide), BitVec.toNat_and, BitVec.toNat_ofNat, BitVec.toNat_ofNat, Nat.mod_eq_of_lt (show x < 2 ^ 32 from hx), show 1 % 2 ^ 32 = 1 from rfl, Nat.and_one_is_mod, IntKind.wrap_u32]
  omega
/-- How many sectors a record takes. -/
def needN (n : Nat) : Nat := (n + 22) / 19
def sumB (bs : List UInt8) : List UInt8 := [u8 ((sumN bs : Int) / 2 ^ 24), u8 ((sumN bs : Int) / 2 ^ 16), u8 ((sumN bs : Int) / 2 ^ 8), u8 (sumN bs : Int)]
def wholeB (bs : List UInt8) : List UInt8 := sumB bs ++ bs
theorem wholeB_len (bs : List UInt8) : (wholeB bs).length = bs.length + 4 := by unfold wholeB sumB; simp
/-- A record's sectors. -/
def partB (bs : List UInt8) (k : Nat) : List UInt8 := ((wholeB bs).drop (19 * k)).take 19
def secB (e q : Int) (bs : List UInt8) (k : Nat) : List UInt8 := sealB e q (k : Int) (needN bs.length : Nat) (partB bs k)
theorem partB_len (bs : List UInt8) (k : Nat) : (partB bs k).length ≤ 19 := by unfold partB; rw [List.length_take]; omega
/-- Sectors written one behind the other, as far as it goes. -/
def putTo (S : DS) (at_ : Int) (f : Nat → List UInt8) : Nat → DS
  | 0 => S
  | k + 1 => (writeR (putTo S at_ f k) (at_ + k) (f k)).1
def putE (S : DS) (at_ : Int) (f : Nat → List UInt8) (k : Nat) : Int := (writeR (putTo S at_ f k) (at_ + k) (f k)).2
/-- How writing n sectors ends: behind all of them, or at the first that is refused. -/
def PutEnds (S : DS) (at_ : Int) (f : Nat → List UInt8) (n : Nat) (S' : DS) (next er : Int) : Prop :=
  ((∀ j, j < n → putE S at_ f j = 0) ∧ S' = putTo S at_ f n ∧ next = at_ + n ∧ er = 0) ∨
  ∃ k, k < n ∧ (∀ j, j < k → putE S at_ f j = 0) ∧ putE S at_ f k ≠ 0 ∧ S' = putTo S at_ f (k + 1) ∧ next = 0 ∧ er = putE S at_ f k
theorem writeR_pend (S : DS) (a : Int) (b : List UInt8) : (writeR S a b).1.pend.length ≤ S.pend.length + 1 := by
  unfold writeR
  (repeat' split) <;> simp
theorem putTo_pend (S : DS) (at_ : Int) (f : Nat → List UInt8) : ∀ k, (putTo S at_ f k).pend.length ≤ S.pend.length + k
  | 0 => Nat.le_refl _
  | k + 1 => by
    have h1 := putTo_pend S at_ f k
    have h2 := writeR_pend (putTo S at_ f k) (at_ + k) (f k)
    show (writeR _ _ _).1.pend.length ≤ _
    omega
theorem writeR_secs (S : DS) (a : Int) (b : List UInt8) : (writeR S a b).1.secs = S.secs := by
  unfold writeR
  (repeat' split) <;> rfl
theorem putTo_secs (S : DS) (at_ : Int) (f : Nat → List UInt8) : ∀ k, (putTo S at_ f k).secs = S.secs
  | 0 => rfl
  | k + 1 => by
    show (writeR _ _ _).1.secs = _
    rw [writeR_secs, putTo_secs S at_ f k]
end Go.Proofs.YthocicjjighbnaaX
