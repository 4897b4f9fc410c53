/- Bytes of a URL, in plain words. Own lemmas, no program in sight. -/
import Derived.Test.YtlmmpcdjkpibcaaH1
import Derived.Test.YtlmmpcdjkpibcaaXF
namespace Go.Proofs.YtlmmpcdjkpibcaaX
set_option linter.unusedVariables false
set_option linter.unusedSimpArgs false
open Go Go.RowKit
variable {w0 w : World} {I : Imm} {L : Own} {P : Program} {l : Env} {ty : TypeId}

def hexL : List UInt8 := [48, 49, 50, 51, 52, 53, 54, 55, 56, 57, 65, 66, 67, 68, 69, 70]
def hexS : ByteArray := ⟨#[48, 49, 50, 51, 52, 53, 54, 55, 56, 57, 65, 66, 67, 68, 69, 70]⟩
theorem hexS_list : hexS.toList = hexL := by rw [ByteArray.toList_eq]; rfl
def hexD (n : Nat) : UInt8 := hexL.getD n 0
def upD (c : UInt8) : UInt8 := if 97 ≤ c.toNat ∧ c.toNat ≤ 102 then u8 ((c.toNat : Int) - 32) else c
def digV (c : UInt8) : Int := idxB hexL (upD c)
def pctB (c : UInt8) : List UInt8 := [37, hexD (c.toNat / 16), hexD (c.toNat % 16)]
def otherL : List UInt8 := [34, 96, 35, 60, 62, 63, 123, 125]
def otherS : ByteArray := ⟨#[34, 96, 35, 60, 62, 63, 123, 125]⟩
theorem otherS_list : otherS.toList = otherL := by rw [ByteArray.toList_eq]; rfl
def safeR (r : Nat) : Bool := decide (33 ≤ r) && (decide (r ≤ 126) && !decide (0 ≤ idxB otherL (u8 (r : Int))))
def encR (r : Nat) : List UInt8 := if safeR r then [u8 (r : Int)] else (encL (r : Int)).flatMap pctB
def encB (l : List UInt8) : List UInt8 := (runesL l).flatMap encR
theorem flat_len {α β : Type} {f : α → List β} {n : Nat} : ∀ (l : List α), (∀ x ∈ l, (f x).length ≤ n) → (l.flatMap f).length ≤ n * l.length
  | [], _ => by simp
  | a :: l, h => by
    rw [List.flatMap_cons, List.length_append, List.length_cons, Nat.mul_add, Nat.mul_one]
    have h1 := h a (List.mem_cons_self ..)
    have h2 := flat_len l fun x hx => h x (List.mem_cons_of_mem _ hx)
    omega
theorem encR_len (r : Nat) : (encR r).length ≤ 12 := by
  unfold encR
  split
  · simp
  · have h := flat_len (f := pctB) (n := 3) (encL (r : Int)) (fun _ _ => by simp [pctB])
    have := encL_len (r : Int)
    omega
theorem runesF_len : ∀ (n : Nat) (l : List UInt8), (runesF n l).length ≤ l.length
  | 0, l => by simp [runesF]
  | n + 1, l => by
    show (if l = [] then [] else _).length ≤ _
    split
    · simp
    · rename_i hl
      have hp : 0 < l.length := List.length_pos_iff.2 hl
      have hw := decodeL_w l
      have := runesF_len n (l.drop (Go.Lib.decodeL l).2)
      rw [List.length_drop] at this
      rw [List.length_cons]
      omega
theorem encB_len (l : List UInt8) : (encB l).length ≤ 12 * l.length := by
  have h := flat_len (f := encR) (n := 12) (runesL l) (fun r _ => encR_len r)
  have := runesF_len l.length l
  unfold encB
  unfold runesL at h ⊢
  omega
theorem getD_byte {s : ByteArray} {i : Nat} (h : i < s.size) : s[i] = s.toList.getD i 0 := by
  have h2 : i < s.data.toList.length := by rw [Array.length_toList]; exact h
  rw [ByteArray.toList_eq, List.getD_eq_getElem?_getD, List.getElem?_eq_getElem h2]
  rfl
/-- A byte of a text. -/
theorem runs_indexL {t : TypeId} {x y : Operand} {k : IntKind} {s : ByteArray} {i : Int} (ht : P.underlying t = some .string) (hx : ev l x = some (.string s)) (hy : ev l y = some (.int k i)) (h0 : 0 ≤ i) (h1 : i < s.size) :
    Runs P (.index t x y) ty l w (.value (b8 (s.toList.getD i.toNat 0))) w := by
  have h := runs_indexS (w := w) (ty := ty) ht hx hy h0 h1
  rw [getD_byte] at h
  exact h
theorem runs_hexI {t : TypeId} {x y : Operand} {k : IntKind} {n : Nat} (ht : P.underlying t = some .string) (hx : ev l x = some (.string hexS)) (hy : ev l y = some (.int k (n : Int))) (hn : n < 16) :
    Runs P (.index t x y) ty l w (.value (b8 (hexD n))) w := by
  have h := runs_indexL (w := w) (ty := ty) ht hx hy (by omega) (by show (n : Int) < ((16 : Nat) : Int); omega)
  rw [hexS_list, Int.toNat_natCast] at h
  exact h
theorem and15 (c : UInt8) : bitop .and .u8 (c.toNat : Int) 15 = ((c.toNat % 16 : Nat) : Int) := by
  have hc := c.toNat_lt
  show IntKind.u8.wrap (((BitVec.ofInt 8 (c.toNat : Int)) &&& (BitVec.ofInt 8 ((15 : Nat) : Int))).toNat : Int) = _
  rw [BitVec.ofInt_natCast, BitVec.ofInt_natCast, BitVec.toNat_and, BitVec.toNat_ofNat, BitVec.toNat_ofNat, Nat.mod_eq_of_lt (by omega), show 15 % 2 ^ 8 = 2 ^ 4 - 1 from rfl, Nat.and_two_pow_sub_one_eq_mod, IntKind.wrap_u8]
  omega
theorem flat_take {f : UInt8 → List UInt8} {l : List UInt8} {j : Nat} (hj : j < l.length) : (l.take (j + 1)).flatMap f = (l.take j).flatMap f ++ f (l.getD j 0) := by
  rw [List.take_add_one, List.getElem?_eq_getElem hj, Option.toList_some, List.flatMap_append, List.flatMap_cons, List.flatMap_nil, List.append_nil]
  have : l.getD j 0 = l[j] := by simp [hj]
  rw [this]
theorem perm_two2 {α : Type} (x y : α) (A B : List α) : (x :: y :: (A ++ B)).Perm (A ++ (x :: y :: B)) := ((List.perm_middle (l₁ := A) (a := y) (l₂ := B)).symm.cons x).trans List.perm_middle.symm
theorem boolN {b : Bool} {P : Prop} [Decidable P] (h : b = true ↔ P) : some (Value.bool b) = some (Value.bool (decide P)) := by
  congr 2
  by_cases hp : P
  · rw [decide_eq_true hp]; exact h.2 hp
  · rw [decide_eq_false hp]; cases b with
    | false => rfl
    | true => exact absurd (h.1 rfl) hp
theorem upD_up {c : UInt8} (h : 97 ≤ (c.toNat : Int) ∧ (c.toNat : Int) ≤ 102) : IntKind.u8.wrap (IntKind.u8.wrap ((c.toNat : Int) - 97) + 65) = ((upD c).toNat : Int) := by
  unfold upD
  rw [if_pos (by omega), u8_toNat, IntKind.wrap_u8, IntKind.wrap_u8]
  omega
theorem upD_same {c : UInt8} (h : ¬ (97 ≤ (c.toNat : Int) ∧ (c.toNat : Int) ≤ 102)) : (c.toNat : Int) = ((upD c).toNat : Int) := by
  unfold upD
  rw [if_neg (by omega)]
theorem safe_1 {r : Nat} (h : ¬ 33 ≤ (r : Int)) : false = safeR r := by
  unfold safeR
  rw [decide_eq_false (show ¬ 33 ≤ r by omega), Bool.false_and]
theorem safe_2 {r : Nat} (h : ¬ (r : Int) ≤ 126) : false = safeR r := by
  unfold safeR
  rw [decide_eq_false (show ¬ r ≤ 126 by omega), Bool.false_and, Bool.and_false]
theorem safe_3 {r : Nat} (h : 33 ≤ (r : Int)) (h2 : (r : Int) ≤ 126) : (!decide (0 ≤ idxB otherL (u8 (r : Int)))) = safeR r := by
  unfold safeR
  rw [decide_eq_true (show 33 ≤ r by omega), decide_eq_true (show r ≤ 126 by omega), Bool.true_and, Bool.true_and]
/-- What is decoded. -/
def decB : List UInt8 → Option (List UInt8)
  | [] => some []
  | c :: r => if c ≠ 37 then (decB r).map (c :: ·) else match r with
    | a :: b :: r' => if digV a < 0 ∨ digV b < 0 then none else (decB r').map (u8 (16 * digV a + digV b) :: ·)
    | _ => none
theorem dig_all : ∀ n : Nat, n < 256 → -1 ≤ digV (UInt8.ofNat n) ∧ digV (UInt8.ofNat n) < 16 := by decide +kernel
theorem digV_le (c : UInt8) : -1 ≤ digV c ∧ digV c < 16 := by
  have := dig_all c.toNat c.toNat_lt
  simpa using this
def trimL (l : List UInt8) : List UInt8 := l.dropWhile (fun c => decide (c.toNat ≤ 32))
def trimR : Nat → List UInt8 → List UInt8
  | 0, l => l
  | n + 1, l => if 0 < l.length ∧ (l.getD (l.length - 1) 0).toNat ≤ 32 then trimR n (l.take (l.length - 1)) else l
def trimB (l : List UInt8) : List UInt8 := trimR l.length (trimL l)
end Go.Proofs.YtlmmpcdjkpibcaaX
