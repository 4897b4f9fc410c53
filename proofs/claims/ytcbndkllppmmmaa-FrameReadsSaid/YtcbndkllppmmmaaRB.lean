/- Unlike bytes have unlike sums: in plain words. Own lemmas, no program in sight. -/
import Derived.Test.YtcbndkllppmmmaaR9
namespace Go.Proofs.YtcbndkllppmmmaaX
set_option linter.unusedVariables false
set_option linter.unusedSimpArgs false
open Go Go.RowKit

theorem xor_cancel {x y c : Nat} (h : x ^^^ c = y ^^^ c) : x = y := by
  have := congrArg (fun z => z ^^^ c) h
  simpa [Nat.xor_assoc, Nat.xor_self] using this
theorem xor_cancel' {x y c : Nat} (h : c ^^^ x = c ^^^ y) : x = y := by
  rw [Nat.xor_comm c x, Nat.xor_comm c y] at h
  exact xor_cancel h
theorem top_bit {x : Nat} (hx : x < 4294967296) : (x / 2).testBit 31 = false := Nat.testBit_lt_two_pow (by omega)
theorem crcBit_inj {x y : Nat} (hx : x < 4294967296) (hy : y < 4294967296) (h : crcBit x = crcBit y) : x = y := by
  have hp : polyN.testBit 31 = true := by decide
  unfold crcBit at h
  by_cases h1 : x % 2 = 1
  · rw [if_pos h1] at h
    by_cases h2 : y % 2 = 1
    · rw [if_pos h2] at h
      have := xor_cancel h
      omega
    · rw [if_neg h2] at h
      have := congrArg (fun z => z.testBit 31) h
      simp only [Nat.testBit_xor, top_bit hx, top_bit hy, hp] at this
      exact absurd this (by decide)
  · rw [if_neg h1] at h
    by_cases h2 : y % 2 = 1
    · rw [if_pos h2] at h
      have := congrArg (fun z => z.testBit 31) h
      simp only [Nat.testBit_xor, top_bit hx, top_bit hy, hp] at this
      exact absurd this (by decide)
    · rw [if_neg h2] at h
      omega
theorem crcBits_inj : ∀ (k : Nat) {x y : Nat}, x < 4294967296 → y < 4294967296 → crcBits k x = crcBits k y → x = y
  | 0, x, y, _, _, h => h
  | k + 1, x, y, hx, hy, h => crcBit_inj hx hy (crcBits_inj k (crcBit_lt hx) (crcBit_lt hy) h)
theorem fold_inj : ∀ (bs : List UInt8) {x y : Nat}, x < 4294967296 → y < 4294967296 → bs.foldl crcByte x = bs.foldl crcByte y → x = y
  | [], x, y, _, _, h => h
  | c :: r, x, y, hx, hy, h => by
    have hc := c.toNat_lt
    have h2 := fold_inj r (crcByte_lt hx c) (crcByte_lt hy c) h
    exact xor_cancel (crcBits_inj 8 (xor_lt32 hx (show c.toNat < 4294967296 by omega)) (xor_lt32 hy (show c.toNat < 4294967296 by omega)) h2)
/-- One byte that is another one. -/
theorem crc_set_ne {bs : List UInt8} {i : Nat} {c : UInt8} (hi : i < bs.length) (hc : c ≠ bs.getD i 0) : crcN (bs.set i c) ≠ crcN bs := by
  intro h
  have hd : bs.getD i 0 = bs[i] := by simp [hi]
  rw [hd] at hc
  have e1 : bs = bs.take i ++ bs[i] :: bs.drop (i + 1) := by
    rw [List.getElem_cons_drop, List.take_append_drop]
  have e2 : bs.set i c = bs.take i ++ c :: bs.drop (i + 1) := List.set_eq_take_append_cons_drop.trans (if_pos hi)
  unfold crcN at h
  rw [e2, List.foldl_append, List.foldl_cons] at h
  have e3 : bs.foldl crcByte onesN = (bs.drop (i + 1)).foldl crcByte (crcByte ((bs.take i).foldl crcByte onesN) bs[i]) := by
    conv => lhs; rw [e1]
    rw [List.foldl_append, List.foldl_cons]
  rw [e3] at h
  have hx : (bs.take i).foldl crcByte onesN < 4294967296 := crc_fold_lt _ (by decide)
  have h1 := fold_inj _ (crcByte_lt hx c) (crcByte_lt hx _) h
  have hcl := c.toNat_lt
  have hdl := bs[i].toNat_lt
  have h2 := crcBits_inj 8 (xor_lt32 hx (show c.toNat < 4294967296 by omega)) (xor_lt32 hx (show bs[i].toNat < 4294967296 by omega)) h1
  exact hc (UInt8.toNat_inj.1 (xor_cancel' h2))
theorem sumN_inj {a b : List UInt8} (h : sumN a = sumN b) : crcN a = crcN b := xor_cancel h
theorem sumB_inj {a b : List UInt8} (h : sumB a = sumB b) : sumN a = sumN b := by
  have ha := sumN_lt a
  have hb := sumN_lt b
  unfold sumB at h
  simp only [List.cons.injEq, and_true] at h
  have h1 := congrArg (fun c : UInt8 => (c.toNat : Int)) h.1
  have h2 := congrArg (fun c : UInt8 => (c.toNat : Int)) h.2.1
  have h3 := congrArg (fun c : UInt8 => (c.toNat : Int)) h.2.2.1
  have h4 := congrArg (fun c : UInt8 => (c.toNat : Int)) h.2.2.2
  simp only [u8_toNat] at h1 h2 h3 h4
  omega
theorem wholeB_inj_sum {a b : List UInt8} (h : (wholeB a).take 4 = (wholeB b).take 4) : crcN a = crcN b := sumN_inj (sumB_inj h)
/-- A record of which one byte is another one tells so. -/
theorem whole_set_ne {b : List UInt8} {p : Nat} {c : UInt8} (hp : p < (wholeB b).length) (hc : c ≠ (wholeB b).getD p 0) : wholeB (((wholeB b).set p c).drop 4) ≠ (wholeB b).set p c := by
  intro h
  rw [wholeB_len] at hp
  by_cases h4 : p < 4
  · have e : ((wholeB b).set p c).drop 4 = b := by rw [List.drop_set, if_pos h4, whole_drop]
    rw [e] at h
    have := congrArg (fun l => l.getD p 0) h
    simp only [getD_set] at this
    rw [if_pos ⟨trivial, by rw [wholeB_len]; omega⟩] at this
    exact hc this.symm
  · have e : ((wholeB b).set p c).drop 4 = b.set (p - 4) c := by rw [List.drop_set, if_neg h4, whole_drop]
    rw [e] at h
    have h5 := congrArg (List.take 4) h
    rw [List.take_set, List.set_eq_of_length_le (l := (wholeB b).take 4) (by rw [List.length_take]; omega)] at h5
    have hg : b.getD (p - 4) 0 = (wholeB b).getD p 0 := by
      unfold wholeB
      rw [List.getD_eq_getElem?_getD, List.getD_eq_getElem?_getD, List.getElem?_append_right (by show 4 ≤ p; omega)]
      rfl
    exact crc_set_ne (by omega) (by rw [hg]; exact hc) (wholeB_inj_sum h5)

-- bytes in a row
def apB (d : Nat) : Nat → Nat → List UInt8
  | _, 0 => []
  | cur, k + 1 => u8 (cur : Int) :: apB d (cur + d) k
def fBit (x : Nat) : Nat := Nat.xor (Nat.div x 2) (Nat.mul 3988292384 (Nat.mod x 2))
theorem fBit_eq (x : Nat) : fBit x = crcBit x := by
  show (x / 2) ^^^ (3988292384 * (x % 2)) = _
  unfold crcBit
  rcases Nat.mod_two_eq_zero_or_one x with h | h
  · rw [h, if_neg (by decide), Nat.mul_zero, Nat.xor_zero]
  · rw [h, if_pos rfl, Nat.mul_one]
    rfl
def forceB (x : Nat) (F : Nat → Bool) : Bool := Nat.rec (motive := fun _ => Bool) (F 0) (fun p _ => F (Nat.succ p)) x
theorem forceB_eq (x : Nat) (F : Nat → Bool) : forceB x F = F x := by cases x <;> rfl
def bits8 (x : Nat) (F : Nat → Bool) : Bool := forceB (fBit x) fun x => forceB (fBit x) fun x => forceB (fBit x) fun x => forceB (fBit x) fun x => forceB (fBit x) fun x => forceB (fBit x) fun x => forceB (fBit x) fun x => forceB (fBit x) F
theorem bits8_eq (x : Nat) (F : Nat → Bool) : bits8 x F = F (crcBits 8 x) := by
  unfold bits8
  simp only [forceB_eq, fBit_eq]
  rfl
def goF (k : Nat) : Nat → Nat → Nat → Nat → Bool :=
  Nat.rec (motive := fun _ => Nat → Nat → Nat → Nat → Bool) (fun _ _ _ _ => true) (fun _ ih s x cur d => bits8 (Nat.xor x (Nat.mod cur 256)) fun y => forceB (Nat.add cur d) fun c => cond (Nat.beq y s) false (ih s y c d)) k
def runF (k : Nat) : Nat → Nat → Nat → (Nat → Nat → Bool) → Bool :=
  Nat.rec (motive := fun _ => Nat → Nat → Nat → (Nat → Nat → Bool) → Bool) (fun x cur _ F => F x cur) (fun _ ih x cur d F => bits8 (Nat.xor x (Nat.mod cur 256)) fun y => forceB (Nat.add cur d) fun c => ih y c d F) k
def chkF (c d : Nat) : Bool := runF 15 4294967295 c d fun x cur => goF 84 x x cur d
def chkA (r : Nat) : Bool := chkF (Nat.mod r 256) (Nat.add (Nat.mul 2 (Nat.div r 10)) 1)
def chkB (r : Nat) : Bool := chkF (Nat.sub 1280 r) (Nat.sub 257 (Nat.mul 2 (Nat.div (Nat.add r 5) 10)))
def allF (lo n : Nat) : Bool :=
  Nat.rec (motive := fun _ => Bool) true (fun r ih => forceB (Nat.add lo r) fun r => cond (chkA r) (cond (chkB r) ih false) false) n
theorem apB_byte (cur x : Nat) (hx : x < 4294967296) : crcBits 8 (Nat.xor x (Nat.mod cur 256)) = crcByte x (u8 (cur : Int)) := by
  unfold crcByte
  have : (u8 (cur : Int)).toNat = cur % 256 := by have := u8_toNat (cur : Int); omega
  rw [this]
  rfl
theorem goF_ok {d s : Nat} : ∀ (k x cur : Nat), x < 4294967296 → goF k s x cur d = true → ∀ j, 1 ≤ j → j ≤ k → (apB d cur j).foldl crcByte x ≠ s
  | 0, _, _, _, _, j, h1, h2 => by omega
  | k + 1, x, cur, hx, h, j, h1, h2 => by
    have h3 : (bits8 (Nat.xor x (Nat.mod cur 256)) fun y => forceB (Nat.add cur d) fun c => cond (Nat.beq y s) false (goF k s y c d)) = true := h
    rw [bits8_eq, forceB_eq, apB_byte _ _ hx] at h3
    match j, h1, h2 with
    | j + 1, _, h2 =>
      show (apB d (cur + d) j).foldl crcByte (crcByte x (u8 (cur : Int))) ≠ s
      cases hb : Nat.beq (crcByte x (u8 (cur : Int))) s with
      | true => rw [hb] at h3; cases h3
      | false =>
        rw [hb] at h3
        by_cases hj : j = 0
        · subst hj
          show crcByte x (u8 (cur : Int)) ≠ s
          intro he
          rw [he, Nat.beq_refl] at hb
          cases hb
        · exact goF_ok k _ _ (crcByte_lt hx _) h3 j (by omega) (by omega)
theorem runF_eq {d : Nat} {F : Nat → Nat → Bool} : ∀ (k x cur : Nat), x < 4294967296 → runF k x cur d F = F ((apB d cur k).foldl crcByte x) (cur + k * d)
  | 0, x, cur, _ => by
    show F x cur = F x (cur + 0 * d)
    rw [Nat.zero_mul, Nat.add_zero]
  | k + 1, x, cur, hx => by
    show (bits8 (Nat.xor x (Nat.mod cur 256)) fun y => forceB (Nat.add cur d) fun c => runF k y c d F) = _
    rw [bits8_eq, forceB_eq, apB_byte _ _ hx, runF_eq k _ _ (crcByte_lt hx _)]
    show F ((apB d (cur + d) k).foldl crcByte _) (cur + d + k * d) = _
    rw [Nat.succ_mul, show cur + d + k * d = cur + (k * d + d) by omega]
    rfl
theorem apB_split {d : Nat} : ∀ (i j cur : Nat), apB d cur (i + j) = apB d cur i ++ apB d (cur + i * d) j
  | 0, j, cur => by rw [Nat.zero_add, Nat.zero_mul, Nat.add_zero]; rfl
  | i + 1, j, cur => by
    rw [show i + 1 + j = (i + j) + 1 by omega]
    show u8 _ :: apB d (cur + d) (i + j) = u8 _ :: (apB d (cur + d) i ++ _)
    rw [apB_split i j, Nat.succ_mul, show cur + d + i * d = cur + (i * d + d) by omega]
theorem chkF_ok {c d : Nat} (h : chkF c d = true) {L : Nat} (h1 : 16 ≤ L) (h2 : L ≤ 99) : crcN (apB d c L) ≠ crcN (apB d c 15) := by
  replace h : runF 15 onesN c d (fun x cur => goF 84 x x cur d) = true := h
  rw [runF_eq 15 _ _ (by decide)] at h
  have hx : (apB d c 15).foldl crcByte onesN < 4294967296 := crc_fold_lt _ (by decide)
  have := goF_ok 84 _ _ hx h (L - 15) (by omega) (by omega)
  unfold crcN
  rw [show L = 15 + (L - 15) by omega, apB_split, List.foldl_append]
  exact this
theorem allF_next {lo n : Nat} (h : allF lo (n + 1) = true) : chkA (lo + n) = true ∧ chkB (lo + n) = true ∧ allF lo n = true := by
  have h3 : (forceB (lo + n) fun r => cond (chkA r) (cond (chkB r) (allF lo n) false) false) = true := h
  rw [forceB_eq] at h3
  generalize allF lo n = z at h3 ⊢
  generalize chkA (lo + n) = x at h3 ⊢
  generalize chkB (lo + n) = y at h3 ⊢
  cases x <;> cases y <;> simp_all
theorem allF_ok {lo n : Nat} (h : allF lo n = true) : ∀ r, lo ≤ r → r < lo + n → chkA r = true ∧ chkB r = true := by
  induction n with
  | zero => intro r h1 h2; omega
  | succ n ih =>
    obtain ⟨ha, hb, h3⟩ := allF_next h
    intro r h1 h2
    by_cases hr : r = lo + n
    · rw [hr]; exact ⟨ha, hb⟩
    · exact ih h3 r h1 (by omega)
theorem all_a : allF 0 128 = true := by decide +kernel
end Go.Proofs.YtcbndkllppmmmaaX
