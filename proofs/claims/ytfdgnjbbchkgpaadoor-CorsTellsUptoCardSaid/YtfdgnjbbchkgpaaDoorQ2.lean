/- Decoding, trimming, in plain words. Own lemmas, no program in sight. -/
import Derived.Test.YtfdgnjbbchkgpaaDoorQ1
namespace Go.Proofs.YtfdgnjbbchkgpaaDoorX
set_option linter.unusedVariables false
set_option linter.unusedSimpArgs false
open Go Go.RowKit
variable {w0 w : World} {I : Imm} {L : Own} {P : Program} {l : Env} {ty : TypeId}

theorem extract_list {s : ByteArray} {i j : Nat} : (s.extract i j).toList = (s.toList.drop i).take (j - i) := by
  rw [ByteArray.toList_eq, ByteArray.toList_eq, ByteArray.data_extract, Array.toList_extract]
theorem drop_step {s : ByteArray} {i : Nat} (h : i < s.size) : s.toList.drop i = s.toList.getD i 0 :: s.toList.drop (i + 1) := by
  have h2 : i < s.toList.length := by rw [size_toList]; exact h
  rw [List.drop_eq_getElem_cons h2]
  simp [h2]
theorem decB_plain {c : UInt8} {r : List UInt8} (h : (c.toNat : Int) ≠ 37) : decB (c :: r) = (decB r).map (c :: ·) := by
  have hc : c ≠ 37 := fun e => h (by rw [e]; rfl)
  rw [decB.eq_def]
  exact if_pos hc
theorem is37 {c : UInt8} (h : ¬ (c.toNat : Int) ≠ 37) : c = 37 := by
  apply UInt8.toNat_inj.1
  have h2 : (c.toNat : Int) = 37 := by omega
  have h3 : (37 : UInt8).toNat = 37 := rfl
  omega
theorem decB_pct {a b : UInt8} {r : List UInt8} (ha : 0 ≤ digV a) (hb : 0 ≤ digV b) : decB (37 :: a :: b :: r) = (decB r).map (u8 (16 * digV a + digV b) :: ·) := by
  rw [decB.eq_def]
  exact (if_neg (by decide)).trans (if_neg (by omega))
theorem decB_bad {a b : UInt8} {r : List UInt8} (h : digV a < 0 ∨ digV b < 0) : decB (37 :: a :: b :: r) = none := by
  rw [decB.eq_def]
  exact (if_neg (by decide)).trans (if_pos h)
theorem decB_short {r : List UInt8} (h : r.length < 2) : decB (37 :: r) = none := by
  match r, h with
  | [], _ => rfl
  | [a], _ => rfl
  | a :: b :: r, h => simp only [List.length_cons] at h; omega
theorem dec_go {o : Option (List UInt8)} {out : List UInt8} {c : UInt8} : (o.map (c :: ·)).map (out ++ ·) = o.map ((out ++ [c]) ++ ·) := by cases o <;> simp
theorem dig_or : ∀ x : Nat, x < 16 → ∀ y : Nat, y < 16 → bitop .or .i64 (IntKind.i64.wrap ((x : Int) * 2 ^ 4)) (y : Int) = 16 * (x : Int) + y := by decide +kernel
theorem dig_or2 {a b : UInt8} (ha : 0 ≤ digV a) (hb : 0 ≤ digV b) : bitop .or .i64 (IntKind.i64.wrap (digV a * 2 ^ 4)) (digV b) = 16 * digV a + digV b := by
  have h1 := digV_le a
  have h2 := digV_le b
  have := dig_or (digV a).toNat (by omega) (digV b).toNat (by omega)
  rwa [show (((digV a).toNat : Nat) : Int) = digV a by omega, show (((digV b).toNat : Nat) : Int) = digV b by omega] at this
-- trimming
def goL (l : List UInt8) : Bool := decide (0 < l.length) && decide ((l.getD 0 0).toNat ≤ 32)
def goR (l : List UInt8) : Bool := decide (0 < l.length) && decide ((l.getD (l.length - 1) 0).toNat ≤ 32)
theorem trimL_go {l : List UInt8} (h : goL l = true) : trimL (l.drop 1) = trimL l := by
  unfold goL at h
  match l, h with
  | [], h => simp at h
  | c :: r, h =>
    have hc : c.toNat ≤ 32 := by simpa using h
    show _ = trimL (c :: r)
    unfold trimL
    rw [List.dropWhile_cons, if_pos (by simpa using hc)]
    rfl
theorem trimL_stop {l : List UInt8} (h : goL l = false) : trimL l = l := by
  unfold goL at h
  match l, h with
  | [], _ => rfl
  | c :: r, h =>
    have hc : ¬ c.toNat ≤ 32 := by simpa using h
    unfold trimL
    rw [List.dropWhile_cons, if_neg (by simpa using hc)]
theorem trimR_go {l : List UInt8} (h : goR l = true) : trimR (l.take (l.length - 1)).length (l.take (l.length - 1)) = trimR l.length l := by
  unfold goR at h
  simp only [Bool.and_eq_true, decide_eq_true_eq] at h
  have e : (l.take (l.length - 1)).length = l.length - 1 := by rw [List.length_take]; omega
  rw [e]
  obtain ⟨n, hn⟩ : ∃ n, l.length = n + 1 := ⟨l.length - 1, by omega⟩
  rw [hn]
  show _ = if _ then _ else _
  rw [if_pos h, hn, Nat.add_sub_cancel]
theorem trimR_stop {n : Nat} {l : List UInt8} (h : goR l = false) : trimR n l = l := by
  unfold goR at h
  match n with
  | 0 => rfl
  | n + 1 =>
    show (if _ then _ else _) = _
    rw [if_neg]
    intro h2
    rw [decide_eq_true h2.1, decide_eq_true h2.2] at h
    cases h
theorem trimR_le : ∀ (n : Nat) (l : List UInt8), l.length ≤ n → trimR n l = trimR l.length l
  | 0, l, h => by
    have : l.length = 0 := by omega
    rw [this]
  | n + 1, l, h => by
    cases hg : goR l with
    | false => rw [trimR_stop hg, trimR_stop hg]
    | true =>
      rw [← trimR_go hg]
      have h2 := hg
      unfold goR at h2
      simp only [Bool.and_eq_true, decide_eq_true_eq] at h2
      show (if _ then _ else _) = _
      rw [if_pos h2, trimR_le n _ (by rw [List.length_take]; omega)]
theorem trimB_of {t s : List UInt8} (h : goL t = false) (h2 : trimL t = trimL s) (hl : t.length ≤ s.length) : trimR t.length t = trimB s := by
  rw [trimL_stop h] at h2
  unfold trimB
  rw [← h2, trimR_le s.length t hl]
-- the document's digit
def mD (i : Nat) (c : UInt8) : Bool := decide ((hexD i).toNat = c.toNat) || (decide (9 < i) && decide (((hexD i).toNat + 32) % 256 = c.toNat))
theorem mD_all : ∀ n : Nat, n < 256 → ∀ i : Nat, i < 16 → mD i (UInt8.ofNat n) = true → (i : Int) = digV (UInt8.ofNat n) := by decide +kernel
theorem mD_none : ∀ n : Nat, n < 256 → (∀ i : Nat, i < 16 → mD i (UInt8.ofNat n) = false) → digV (UInt8.ofNat n) = -1 := by decide +kernel
theorem mD_hit {i : Nat} {c : UInt8} (hi : i < 16) (h : mD i c = true) : (i : Int) = digV c := by
  have := mD_all c.toNat c.toNat_lt i hi
  simp only [UInt8.ofNat_toNat] at this
  exact this h
theorem mD_miss {c : UInt8} (h : ∀ i : Nat, i < 16 → mD i c = false) : (-1 : Int) = digV c := by
  have := mD_none c.toNat c.toNat_lt
  simp only [UInt8.ofNat_toNat] at this
  exact (this h).symm
theorem mD_1 {i : Nat} {c : UInt8} (h : ((hexD i).toNat : Int) = (c.toNat : Int)) : true = mD i c := by
  unfold mD
  rw [decide_eq_true (show (hexD i).toNat = c.toNat by omega), Bool.true_or]
theorem mD_2 {i : Nat} {c : UInt8} (h : ¬ ((hexD i).toNat : Int) = (c.toNat : Int)) (h2 : ¬ (i : Int) > 9) : false = mD i c := by
  unfold mD
  rw [decide_eq_false (show ¬ (hexD i).toNat = c.toNat by omega), decide_eq_false (show ¬ 9 < i by omega), Bool.false_and, Bool.false_or]
theorem mD_3 {i : Nat} {c : UInt8} (h : ¬ ((hexD i).toNat : Int) = (c.toNat : Int)) (h2 : (i : Int) > 9) : decide (IntKind.u8.wrap (((hexD i).toNat : Int) + 32) = (c.toNat : Int)) = mD i c := by
  unfold mD
  rw [decide_eq_false (show ¬ (hexD i).toNat = c.toNat by omega), decide_eq_true (show 9 < i by omega), Bool.true_and, Bool.false_or, IntKind.wrap_u8]
  exact decide_eq_decide.2 ⟨fun h => by omega, fun h => by omega⟩
-- the document's bad ones
theorem safe_fin : ∀ r : Nat, r < 127 → safeR r = (decide (33 ≤ r) && (decide (r ≠ 34) && (decide (r ≠ 96) && (decide (r ≠ 35) && (decide (r ≠ 60) && (decide (r ≠ 62) && (decide (r ≠ 63) && (decide (r ≠ 123) && decide (r ≠ 125))))))))) := by decide +kernel
theorem bad_1 {r : Nat} (h : (r : Int) < 33 ∨ (r : Int) > 126 ∨ (r : Int) = 34 ∨ (r : Int) = 96 ∨ (r : Int) = 35 ∨ (r : Int) = 60 ∨ (r : Int) = 62 ∨ (r : Int) = 63 ∨ (r : Int) = 123) : true = !safeR r := by
  by_cases h1 : r < 127
  · rw [safe_fin r h1]
    rcases h with h | h | h | h | h | h | h | h | h
    · rw [decide_eq_false (show ¬ 33 ≤ r by omega)]; rfl
    · omega
    all_goals
      obtain rfl : r = _ := Int.ofNat_inj.1 h
      decide
  · rw [← safe_2 (by omega)]
    rfl
theorem bad_2 {r : Nat} (h0 : ¬ (r : Int) < 33) (h1 : ¬ (r : Int) > 126) (h2 : ¬ (r : Int) = 34) (h3 : ¬ (r : Int) = 96) (h4 : ¬ (r : Int) = 35) (h5 : ¬ (r : Int) = 60) (h6 : ¬ (r : Int) = 62) (h7 : ¬ (r : Int) = 63) (h8 : ¬ (r : Int) = 123) : decide ((r : Int) = 125) = !safeR r := by
  rw [safe_fin r (by omega), decide_eq_true (show 33 ≤ r by omega), decide_eq_true (show r ≠ 34 by omega), decide_eq_true (show r ≠ 96 by omega), decide_eq_true (show r ≠ 35 by omega), decide_eq_true (show r ≠ 60 by omega), decide_eq_true (show r ≠ 62 by omega), decide_eq_true (show r ≠ 63 by omega), decide_eq_true (show r ≠ 123 by omega)]
  simp only [Bool.true_and]
  by_cases h9 : r = 125
  · rw [decide_eq_true (show (r : Int) = 125 by omega), decide_eq_false (show ¬ r ≠ 125 by omega)]; rfl
  · rw [decide_eq_false (show ¬ (r : Int) = 125 by omega), decide_eq_true (show r ≠ 125 by omega)]; rfl
theorem safe_small {r : Nat} (h : safeR r = true) : r ≤ 126 := by
  unfold safeR at h
  simp at h
  omega
/-- A digit, cut out of the digits. -/
theorem hex_cut : ∀ n : Nat, n < 16 → hexS.extract n (n + 1) = strOf [hexD n] := by decide +kernel
theorem runs_hexSl {t : TypeId} {x y y' : Operand} {k k' : IntKind} {n : Nat} {lo hi : Int} (ht : P.underlying t = some .string) (hx : ev l x = some (.string hexS)) (hy : ev l y = some (.int k lo)) (hy' : ev l y' = some (.int k' hi)) (hlo : lo = (n : Int)) (hhi : hi = (n : Int) + 1) (hn : n < 16) :
    Runs P (.slice t x (some y) (some y') none) ty l w (.value (.string (strOf [hexD n]))) w := by
  subst hlo hhi
  have h := runs_sliceS_lh (w := w) (ty := ty) ht hx hy hy' (by show 0 ≤ (n : Int) ∧ (n : Int) ≤ n + 1 ∧ (n : Int) + 1 ≤ ((16 : Nat) : Int); omega)
  rw [Int.toNat_natCast, show ((n : Int) + 1).toNat = n + 1 by omega, hex_cut n hn] at h
  exact h
theorem strOf_app (a b : List UInt8) : strOf a ++ strOf b = strOf (a ++ b) := by
  apply ByteArray.ext
  simp [strOf]
theorem strOf_of (s : ByteArray) : strOf s.toList = s := by rw [ByteArray.toList_eq]; rfl
theorem enc_str (r : Int) : Utf8.encode r = strOf (encL r) := (strOf_of _).symm
theorem strOf_size (a : List UInt8) : (strOf a).size = a.length := by rw [← size_toList, strOf_toList]
end Go.Proofs.YtfdgnjbbchkgpaaDoorX
