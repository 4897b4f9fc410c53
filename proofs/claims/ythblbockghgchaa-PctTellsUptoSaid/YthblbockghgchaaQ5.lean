/- What is encoded, decoded, trimmed: the laws, in plain words. Own lemmas, no program in sight. -/
import Derived.Test.YthblbockghgchaaQ4
namespace Go.Proofs.YthblbockghgchaaX
set_option linter.unusedVariables false
set_option linter.unusedSimpArgs false
open Go Go.RowKit

def lowL : List UInt8 := [48, 49, 50, 51, 52, 53, 54, 55, 56, 57, 97, 98, 99, 100, 101, 102]
def lowS : ByteArray := ⟨#[48, 49, 50, 51, 52, 53, 54, 55, 56, 57, 97, 98, 99, 100, 101, 102]⟩
def digT (small : Bool) (n : Nat) : UInt8 := (if small then lowL else hexL).getD n 0
def pctS (small : Bool) (c : UInt8) : List UInt8 := [37, digT small (c.toNat / 16), digT small (c.toNat % 16)]
theorem pctS_false : pctS false = pctB := rfl
theorem digT_val : ∀ n : Nat, n < 16 → digV (digT false n) = n ∧ digV (digT true n) = n := by decide +kernel
theorem digT_dig {small : Bool} {n : Nat} (h : n < 16) : digV (digT small n) = n := by
  cases small
  · exact (digT_val n h).1
  · exact (digT_val n h).2
theorem digT_fin : ∀ n : Nat, n < 16 → safeR (digT false n).toNat = true ∧ safeR (digT true n).toNat = true := by decide +kernel
theorem pctS_safe {small : Bool} {c x : UInt8} (h : x ∈ pctS small c) : safeR x.toNat = true := by
  have hc := c.toNat_lt
  unfold pctS at h
  simp only [List.mem_cons, List.not_mem_nil, or_false] at h
  rcases h with rfl | rfl | rfl
  · decide
  · cases small
    · exact (digT_fin _ (by omega)).1
    · exact (digT_fin _ (by omega)).2
  · cases small
    · exact (digT_fin _ (by omega)).1
    · exact (digT_fin _ (by omega)).2
theorem low_cut : ∀ n : Nat, n < 16 → lowS.extract n (n + 1) = strOf [digT true n] := by decide +kernel
variable {w0 w : World} {I : Imm} {L : Own} {P : Program} {l : Env} {ty : TypeId}
theorem runs_lowSl {t : TypeId} {x y y' : Operand} {k k' : IntKind} {n : Nat} {lo hi : Int} (ht : P.underlying t = some .string) (hx : ev l x = some (.string lowS)) (hy : ev l y = some (.int k lo)) (hy' : ev l y' = some (.int k' hi)) (hlo : lo = (n : Int)) (hhi : hi = (n : Int) + 1) (hn : n < 16) :
    Runs P (.slice t x (some y) (some y') none) ty l w (.value (.string (strOf [digT true n]))) w := by
  subst hlo hhi
  have h := runs_sliceS_lh (w := w) (ty := ty) ht hx hy hy' (by show 0 ≤ (n : Int) ∧ (n : Int) ≤ n + 1 ∧ (n : Int) + 1 ≤ ((16 : Nat) : Int); omega)
  rw [Int.toNat_natCast, show ((n : Int) + 1).toNat = n + 1 by omega, low_cut n hn] at h
  exact h
theorem dec_pctS {small : Bool} (c : UInt8) (rest : List UInt8) : decB (pctS small c ++ rest) = (decB rest).map (c :: ·) := by
  have hc := c.toNat_lt
  have h1 : digV (digT small (c.toNat / 16)) = ((c.toNat / 16 : Nat) : Int) := digT_dig (by omega)
  have h2 : digV (digT small (c.toNat % 16)) = ((c.toNat % 16 : Nat) : Int) := digT_dig (by omega)
  show decB (37 :: _ :: _ :: rest) = _
  rw [decB_pct (by omega) (by omega), h1, h2, show (16 * ((c.toNat / 16 : Nat) : Int) + ((c.toNat % 16 : Nat) : Int)) = (c.toNat : Int) by omega, u8_of]
theorem omap {o : Option (List UInt8)} {a b : List UInt8} : (o.map (b ++ ·)).map (a ++ ·) = o.map ((a ++ b) ++ ·) := by cases o <;> simp
theorem omap0 {o : Option (List UInt8)} : o.map (([] : List UInt8) ++ ·) = o := by cases o <;> simp
theorem dec_bytes {small : Bool} : ∀ (bs rest : List UInt8), decB (bs.flatMap (pctS small) ++ rest) = (decB rest).map (bs ++ ·)
  | [], rest => by rw [List.flatMap_nil, List.nil_append, omap0]
  | c :: bs, rest => by
    rw [List.flatMap_cons, List.append_assoc, dec_pctS, dec_bytes bs rest]
    cases decB rest <;> simp
theorem encR_safe {r : Nat} (h : safeR r = true) : encR r = [u8 (r : Int)] := by unfold encR; rw [if_pos h]
theorem encB_self {l : List UInt8} (h : ∀ c ∈ l, safeR c.toNat = true) : encB l = l := by
  unfold encB
  rw [runes_ascii l fun c hc => by have := safe_small (h c hc); omega]
  induction l with
  | nil => rfl
  | cons c r ih =>
    rw [List.map_cons, List.flatMap_cons, encR_safe (h c (List.mem_cons_self ..)), u8_of, ih fun x hx => h x (List.mem_cons_of_mem _ hx)]
    rfl
theorem safe_bytes {small : Bool} {bs : List UInt8} : ∀ c ∈ bs.flatMap (pctS small), safeR c.toNat = true := by
  intro c hc
  obtain ⟨x, _, hx⟩ := List.mem_flatMap.1 hc
  exact pctS_safe hx
theorem u8_nat {r : Nat} (h : r < 256) : (u8 (r : Int)).toNat = r := by have := u8_toNat (r : Int); omega
theorem safe_encR {r : Nat} : ∀ c ∈ encR r, safeR c.toNat = true := by
  intro c hc
  by_cases h : safeR r = true
  · rw [encR_safe h] at hc
    have := safe_small h
    rw [List.mem_singleton.1 hc, u8_nat (by omega)]
    exact h
  · unfold encR at hc
    rw [if_neg h] at hc
    exact safe_bytes (small := false) c hc
theorem safe_encB {l : List UInt8} : ∀ c ∈ encB l, safeR c.toNat = true := by
  intro c hc
  obtain ⟨x, _, hx⟩ := List.mem_flatMap.1 hc
  exact safe_encR c hx
theorem encB_twice (l : List UInt8) : encB (encB l) = encB l := encB_self safe_encB
/-- Decoding what one rune was encoded to. -/
theorem dec_encR {r : Nat} (h37 : r ≠ 37) (rest : List UInt8) : decB (encR r ++ rest) = (decB rest).map (encL (r : Int) ++ ·) := by
  by_cases h : safeR r = true
  · have hs := safe_small h
    rw [encR_safe h, encL_one (by omega) (by omega)]
    show decB (u8 (r : Int) :: rest) = _
    rw [decB_plain (by rw [u8_nat (by omega)]; omega)]
    rfl
  · unfold encR
    rw [if_neg h]
    exact dec_bytes (small := false) _ rest
theorem dec_encs : ∀ (rs : List Nat) (_ : ∀ r ∈ rs, r ≠ 37), decB (rs.flatMap encR) = some (rs.flatMap fun (r : Nat) => encL (r : Int))
  | [], _ => rfl
  | r :: rs, h => by
    rw [List.flatMap_cons, dec_encR (h r (List.mem_cons_self ..)), dec_encs rs fun x hx => h x (List.mem_cons_of_mem _ hx)]
    rfl
def txt (rs : List Nat) : List UInt8 := rs.flatMap fun (r : Nat) => encL (r : Int)
theorem runes_txt {rs : List Nat} (h : ∀ r ∈ rs, Utf8.valid (r : Int) = true) : runesL (txt rs) = rs := by
  have := runes_encs rs h []
  rw [List.append_nil, runesL_nil, List.append_nil] at this
  exact this
theorem back_law {rs : List Nat} (hv : ∀ r ∈ rs, Utf8.valid (r : Int) = true) (h37 : ∀ r ∈ rs, r ≠ 37) : decB (encB (txt rs)) = some (txt rs) := by
  unfold encB
  rw [runes_txt hv]
  exact dec_encs rs h37
theorem runesL_valid (l : List UInt8) : ∀ r ∈ runesL l, Utf8.valid (r : Int) = true := runes_valid _ l
theorem encB_txt (l : List UInt8) : encB (txt (runesL l)) = encB l := by
  unfold encB
  rw [runes_txt (runesL_valid l)]
theorem encB_parts (s t : List UInt8) : encB (txt (runesL s) ++ txt (runesL t)) = encB (txt (runesL s)) ++ encB (txt (runesL t)) := by
  unfold encB
  rw [show runesL (txt (runesL s) ++ txt (runesL t)) = runesL s ++ runesL (txt (runesL t)) from runes_encs _ (runesL_valid s) _, runes_txt (runesL_valid s), List.flatMap_append]
theorem low_fin : ∀ n : Nat, n < 256 → lowB (lowB (UInt8.ofNat n)) = lowB (UInt8.ofNat n) := by decide +kernel
theorem lowB_twice (c : UInt8) : lowB (lowB c) = lowB c := by
  have := low_fin c.toNat c.toNat_lt
  simpa using this
theorem lower_twice (l : List UInt8) : lower (lower l) = lower l := by
  unfold lower
  rw [List.map_map]
  exact List.map_congr_left fun c _ => lowB_twice c
theorem lower_app (a b : List UInt8) : lower (a ++ b) = lower a ++ lower b := by unfold lower; rw [List.map_append]
theorem trimR_stops : ∀ (n : Nat) (l : List UInt8), l.length ≤ n → goR (trimR n l) = false
  | 0, l, h => by
    have : l = [] := List.eq_nil_of_length_eq_zero (by omega)
    rw [this]; rfl
  | n + 1, l, h => by
    cases hg : goR l with
    | false => rw [trimR_stop hg]; exact hg
    | true =>
      have h2 := hg
      unfold goR at h2
      simp only [Bool.and_eq_true, decide_eq_true_eq] at h2
      show goR (if _ then _ else _) = false
      rw [if_pos h2]
      exact trimR_stops n _ (by rw [List.length_take]; omega)
theorem trimR_head : ∀ (n : Nat) (l : List UInt8), goL l = false → goL (trimR n l) = false
  | 0, l, h => h
  | n + 1, l, h => by
    show goL (if _ then _ else _) = false
    split
    · refine trimR_head n _ ?_
      unfold goL at h ⊢
      by_cases h1 : 0 < (l.take (l.length - 1)).length
      · rw [List.length_take] at h1
        have e : (l.take (l.length - 1)).getD 0 0 = l.getD 0 0 := by
          rw [List.getD_eq_getElem?_getD, List.getD_eq_getElem?_getD, List.getElem?_take, if_pos (by omega)]
        rw [e]
        rw [decide_eq_true (show 0 < l.length by omega), Bool.true_and] at h
        rw [h, Bool.and_false]
      · rw [decide_eq_false h1, Bool.false_and]
    · exact h
theorem goL_trimL : ∀ (l : List UInt8), goL (trimL l) = false
  | [] => rfl
  | c :: r => by
    cases hg : goL (c :: r) with
    | true =>
      rw [← trimL_go hg]
      exact goL_trimL r
    | false => rw [trimL_stop hg]; exact hg
theorem trimL_len : ∀ (l : List UInt8), (trimL l).length ≤ l.length
  | [] => Nat.le_refl _
  | c :: r => by
    cases hg : goL (c :: r) with
    | true =>
      rw [← trimL_go hg]
      have := trimL_len r
      show (trimL r).length ≤ _
      rw [List.length_cons]
      omega
    | false => rw [trimL_stop hg]; exact Nat.le_refl _
theorem trimB_twice (l : List UInt8) : trimB (trimB l) = trimB l := by
  have h1 : goL (trimB l) = false := trimR_head _ _ (goL_trimL l)
  have h2 : goR (trimB l) = false := trimR_stops _ _ (trimL_len l)
  have : trimB (trimB l) = trimR (trimB l).length (trimL (trimB l)) := rfl
  rw [this, trimL_stop h1, trimR_stop h2]
theorem trimR_len : ∀ (n : Nat) (l : List UInt8), (trimR n l).length ≤ l.length
  | 0, l => Nat.le_refl _
  | n + 1, l => by
    show (if _ then _ else _ : List UInt8).length ≤ _
    split
    · have := trimR_len n (l.take (l.length - 1))
      rw [List.length_take] at this
      omega
    · exact Nat.le_refl _
theorem trimB_len (l : List UInt8) : (trimB l).length ≤ l.length := Nat.le_trans (trimR_len _ _) (trimL_len l)
theorem wake_enc : encB [32] = [37, 50, 48] := by decide +kernel
end Go.Proofs.YthblbockghgchaaX
