/- Plain: bytes as values. No program in sight. -/
import Derived.Test.YtlmmpcdjkpibcaaA0
namespace Go.Proofs.YtlmmpcdjkpibcaaX
set_option linter.unusedVariables false
open Go
def nstep (x : Int) (c : UInt8) : Int := bitop .or .u64 (IntKind.u64.wrap (x * 2 ^ 8)) (IntKind.u64.wrap (c.toNat : Int))
def num64 (bs : List UInt8) : Int := IntKind.i64.wrap (bs.foldl nstep 0)
/-- The first value of bytes, and how many bytes it has. -/
def dec1 (b : List UInt8) : Option (AV × Nat) :=
  if bat b 0 = 116 ∨ bat b 0 = 102 then some (.flg (decide (bat b 0 = 116)), 1)
  else if bat b 0 = 105 ∧ 8 < b.length then some (.num (num64 ((b.drop 1).take 8)), 9)
  else if bat b 0 = 115 ∧ 1 < b.length ∧ 2 + bat b 1 ≤ b.length then some (.txt (strOf ((b.drop 2).take (bat b 1).toNat)), 2 + (bat b 1).toNat)
  else none
theorem dec1_flg {b : List UInt8} (h : bat b 0 = 116 ∨ bat b 0 = 102) : dec1 b = some (.flg (decide (bat b 0 = 116)), 1) := by unfold dec1; rw [if_pos h]
theorem dec1_num {b : List UInt8} (h0 : ¬ (bat b 0 = 116 ∨ bat b 0 = 102)) (h : bat b 0 = 105 ∧ 8 < b.length) : dec1 b = some (.num (num64 ((b.drop 1).take 8)), 9) := by unfold dec1; rw [if_neg h0, if_pos h]
theorem dec1_txt {b : List UInt8} (h0 : ¬ (bat b 0 = 116 ∨ bat b 0 = 102)) (h1 : ¬ (bat b 0 = 105 ∧ 8 < b.length)) (h : bat b 0 = 115 ∧ 1 < b.length ∧ 2 + bat b 1 ≤ b.length) :
    dec1 b = some (.txt (strOf ((b.drop 2).take (bat b 1).toNat)), 2 + (bat b 1).toNat) := by unfold dec1; rw [if_neg h0, if_neg h1, if_pos h]
theorem dec1_no {b : List UInt8} (h0 : ¬ (bat b 0 = 116 ∨ bat b 0 = 102)) (h1 : ¬ (bat b 0 = 105 ∧ 8 < b.length)) (h : ¬ (bat b 0 = 115 ∧ 1 < b.length ∧ 2 + bat b 1 ≤ b.length)) : dec1 b = none := by unfold dec1; rw [if_neg h0, if_neg h1, if_neg h]
theorem dec1_pos {b : List UInt8} {a : AV} {k : Nat} (h : dec1 b = some (a, k)) : 1 ≤ k := by
  unfold dec1 at h
  split at h
  · cases h; exact Nat.le_refl _
  · split at h
    · cases h; decide
    · split at h
      · cases h; omega
      · cases h
theorem dec1_le {b : List UInt8} (hb : 0 < b.length) {a : AV} {k : Nat} (h : dec1 b = some (a, k)) : k ≤ b.length := by
  unfold dec1 at h
  have := bat_lt b 1
  split at h
  · cases h; exact hb
  · split at h
    · cases h; omega
    · split at h
      · cases h; omega
      · cases h
theorem fold_take {xs : List UInt8} {k : Nat} (hk : k < xs.length) : (xs.take (k + 1)).foldl nstep 0 = bitop .or .u64 (IntKind.u64.wrap ((xs.take k).foldl nstep 0 * 2 ^ 8)) (IntKind.u64.wrap (bat xs (k : Int))) := by
  rw [List.take_add_one, List.getElem?_eq_getElem hk, Option.toList_some, List.foldl_append]
  simp only [List.foldl_cons, List.foldl_nil, nstep]
  congr 2
  unfold bat
  simp [hk]
def decF : Nat → List UInt8 → Option (List AV)
  | 0, b => if b = [] then some [] else none
  | n + 1, b => if b = [] then some [] else match dec1 b with
    | none => none
    | some (a, k) => (decF n (b.drop k)).map (a :: ·)
theorem decF_enough : ∀ (n m : Nat) (b : List UInt8), b.length ≤ n → b.length ≤ m → decF n b = decF m b
  | 0, 0, b, h, h' => rfl
  | 0, m + 1, b, h, h' => by
    have : b = [] := List.eq_nil_of_length_eq_zero (by omega)
    subst this
    rfl
  | n + 1, 0, b, h, h' => by
    have : b = [] := List.eq_nil_of_length_eq_zero (by omega)
    subst this
    rfl
  | n + 1, m + 1, b, h, h' => by
    unfold decF
    by_cases hb : b = []
    · rw [if_pos hb, if_pos hb]
    · rw [if_neg hb, if_neg hb]
      cases hd : dec1 b with
      | none => rfl
      | some x =>
        obtain ⟨a, k⟩ := x
        have hk := dec1_pos hd
        have hpos : 0 < b.length := List.length_pos_iff.2 hb
        simp only []
        rw [decF_enough n m (b.drop k) (by rw [List.length_drop]; omega) (by rw [List.length_drop]; omega)]
def decA (b : List UInt8) : Option (List AV) := decF b.length b
theorem decA_nil : decA [] = some [] := rfl
theorem decA_step {b : List UInt8} (hb : 0 < b.length) : decA b = match dec1 b with
    | none => none
    | some (a, k) => (decA (b.drop k)).map (a :: ·) := by
  unfold decA
  obtain ⟨n, hn⟩ : ∃ n, b.length = n + 1 := ⟨b.length - 1, by omega⟩
  rw [hn]
  rw [decF]
  rw [if_neg (fun e => by rw [e] at hb; exact absurd hb (by decide))]
  cases hd : dec1 b with
  | none => rfl
  | some x =>
    obtain ⟨a, k⟩ := x
    have hk := dec1_pos hd
    simp only []
    rw [decF_enough n (b.drop k).length (b.drop k) (by rw [List.length_drop]; omega) (Nat.le_refl _)]
theorem decA_some {b : List UInt8} (hb : 0 < b.length) {a : AV} {k : Nat} (hd : dec1 b = some (a, k)) : decA b = (decA (b.drop k)).map (a :: ·) := by rw [decA_step hb, hd]
theorem decA_none {b : List UInt8} (hb : 0 < b.length) (hd : dec1 b = none) : decA b = none := by rw [decA_step hb, hd]
/-- What comes of bytes is good. -/
theorem wrap64_ok (n : Int) : i64ok (IntKind.i64.wrap n) := by
  rw [IntKind.wrap_i64]
  unfold i64ok
  omega
theorem dec1_good {b : List UInt8} {a : AV} {k : Nat} (h : dec1 b = some (a, k)) : a.good 255 false := by
  unfold dec1 at h
  split at h
  · cases h; trivial
  · split at h
    · cases h; exact wrap64_ok _
    · split at h
      · cases h
        show (strOf _).size ≤ 255
        rw [strOf_size, List.length_take]
        have := bat_lt b 1
        omega
      · cases h
/-! ### Decoded as encoded -/
theorem nstep_eq {x : Int} (c : UInt8) (hx : 0 ≤ x) : nstep x c = (x * 256) % 18446744073709551616 + c.toNat := by
  unfold nstep
  have hc := c.toNat_lt
  rw [IntKind.wrap_u64, IntKind.wrap_u64]
  obtain ⟨A, hA⟩ : ∃ A : Nat, (x * 2 ^ 8) % 18446744073709551616 = ((2 ^ 8 * A : Nat) : Int) := by
    refine ⟨((x * 2 ^ 8) % 18446744073709551616 / 256).toNat, ?_⟩
    rw [Int.natCast_mul, show (((2 ^ 8 : Nat)) : Int) = 256 from rfl]
    omega
  have hA2 : 2 ^ 8 * A < 18446744073709551616 := by omega
  have hB : ((c.toNat : Int) % 18446744073709551616) = ((c.toNat : Nat) : Int) := by omega
  have e8 : x * 2 ^ 8 = x * 256 := by omega
  rw [hA, hB, ← e8, hA]
  show IntKind.u64.wrap (((BitVec.ofInt 64 ((2 ^ 8 * A : Nat) : Int)) ||| (BitVec.ofInt 64 ((c.toNat : Nat) : Int))).toNat : Int) = _
  rw [BitVec.ofInt_natCast, BitVec.ofInt_natCast, BitVec.toNat_or, BitVec.toNat_ofNat, BitVec.toNat_ofNat, Nat.mod_eq_of_lt (by omega), Nat.mod_eq_of_lt (by omega), ← Nat.two_pow_add_eq_or_of_lt (by omega) A, IntKind.wrap_u64]
  omega
theorem num64_be8 {n : Int} (h : i64ok n) : num64 (be8 n) = n := by
  unfold num64 be8
  unfold i64ok at h
  have fd : ∀ (x : Int) (n : Nat), x.fdiv (2 ^ n) = x / 2 ^ n := fun x n => Int.fdiv_eq_ediv_of_nonneg _ (Int.pow_nonneg (by decide))
  simp only [List.range_succ, List.range_zero, List.nil_append, List.map_cons, List.map_nil, List.cons_append, List.foldl_cons, List.foldl_nil, fd, IntKind.wrap_u64]
  simp only [Nat.reduceSub, Nat.reduceMul, Int.reducePow]
  obtain ⟨U, hU⟩ : ∃ U, n % 18446744073709551616 = U := ⟨_, rfl⟩
  rw [hU]
  have st : ∀ (x D : Int), 0 ≤ x → nstep x (u8 D) = (x * 256) % 18446744073709551616 + D % 256 := fun x D hx => by rw [nstep_eq _ hx, u8_toNat]
  have k1 : nstep 0 (u8 (U / 72057594037927936)) = U / 72057594037927936 := by rw [st _ _ (by omega)]; omega
  rw [k1]
  have k2 : nstep (U / 72057594037927936) (u8 (U / 281474976710656)) = U / 281474976710656 := by rw [st _ _ (by omega)]; omega
  rw [k2]
  have k3 : nstep (U / 281474976710656) (u8 (U / 1099511627776)) = U / 1099511627776 := by rw [st _ _ (by omega)]; omega
  rw [k3]
  have k4 : nstep (U / 1099511627776) (u8 (U / 4294967296)) = U / 4294967296 := by rw [st _ _ (by omega)]; omega
  rw [k4]
  have k5 : nstep (U / 4294967296) (u8 (U / 16777216)) = U / 16777216 := by rw [st _ _ (by omega)]; omega
  rw [k5]
  have k6 : nstep (U / 16777216) (u8 (U / 65536)) = U / 65536 := by rw [st _ _ (by omega)]; omega
  rw [k6]
  have k7 : nstep (U / 65536) (u8 (U / 256)) = U / 256 := by rw [st _ _ (by omega)]; omega
  rw [k7]
  have k8 : nstep (U / 256) (u8 (U / 1)) = U := by rw [st _ _ (by omega)]; omega
  rw [k8, IntKind.wrap_i64]
  omega
theorem strOf_toList' (b : ByteArray) : strOf b.toList = b := toList_inj (strOf_toList _)
theorem dec1_enc1 {m : Nat} (hm : m ≤ 255) {a : AV} (ha : a.good m false) (r : List UInt8) : dec1 (enc1 a ++ r) = some (a, (enc1 a).length) := by
  cases a with
  | num n =>
    have h0 : bat (enc1 (.num n) ++ r) 0 = 105 := rfl
    have hl : (enc1 (.num n) ++ r).length = 9 + r.length := by simp [enc1, be8_length]; omega
    rw [dec1_num (by rw [h0]; omega) ⟨h0, by omega⟩]
    have e : ((enc1 (.num n) ++ r).drop 1).take 8 = be8 n := by
      show (be8 n ++ r).take 8 = be8 n
      rw [List.take_append_of_le_length (by rw [be8_length]; omega), List.take_of_length_le (by rw [be8_length]; omega)]
    rw [e, num64_be8 ha]
    simp [enc1, be8_length]
  | txt s =>
    have hs : s.size ≤ m := ha
    have h0 : bat (enc1 (.txt s) ++ r) 0 = 115 := rfl
    have h1 : bat (enc1 (.txt s) ++ r) 1 = s.size := by
      show ((u8 (s.size : Int)).toNat : Int) = _
      rw [u8_toNat]; omega
    have hl : (enc1 (.txt s) ++ r).length = 2 + s.size + r.length := by simp [enc1, size_toList]; omega
    rw [dec1_txt (by rw [h0]; omega) (by rw [h0]; omega) ⟨h0, by omega, by omega⟩, h1]
    have e : ((enc1 (.txt s) ++ r).drop 2).take ((s.size : Int)).toNat = s.toList := by
      show (s.toList ++ r).take s.size = s.toList
      rw [← size_toList, List.take_left]
    rw [e, strOf_toList']
    simp [enc1, size_toList]; omega
  | flg t =>
    cases t
    · have h0 : bat (enc1 (.flg false) ++ r) 0 = 102 := rfl
      rw [dec1_flg (.inr h0), h0]
      rfl
    · have h0 : bat (enc1 (.flg true) ++ r) 0 = 116 := rfl
      rw [dec1_flg (.inl h0), h0]
      rfl
  | oth v => exact absurd ha.1 (by decide)
theorem decA_encA {m : Nat} (hm : m ≤ 255) : ∀ {av : List AV}, (∀ x ∈ av, x.good m false) → decA (encA av) = some av
  | [], _ => rfl
  | a :: r, h => by
    have ha := h a (List.mem_cons_self ..)
    have hne := enc1_ne ha
    have e : encA (a :: r) = enc1 a ++ encA r := rfl
    have hpos : 0 < (encA (a :: r)).length := by
      rw [e, List.length_append]
      have := List.length_pos_iff.2 hne
      omega
    rw [decA_some hpos (by rw [e]; exact dec1_enc1 hm ha _), e, List.drop_left, decA_encA hm (fun x hx => h x (List.mem_cons_of_mem _ hx))]
    rfl
end Go.Proofs.YtlmmpcdjkpibcaaX
