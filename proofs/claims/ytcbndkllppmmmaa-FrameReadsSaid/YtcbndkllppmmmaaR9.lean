/- A record that is torn over an older one: in plain words. Own lemmas, no program in sight. -/
import Derived.Test.YtcbndkllppmmmaaR7
namespace Go.Proofs.YtcbndkllppmmmaaX
set_option linter.unusedVariables false
set_option linter.unusedSimpArgs false
open Go Go.RowKit

theorem keep32 {ks : List Int} {j : Nat} : keepN ks j = 32 ↔ j < ks.length ∧ iat ks (j : Int) = 2 := by
  unfold keepN keptR iat
  rw [Int.toNat_natCast]
  generalize ks.getD j 0 = x
  by_cases h : j < ks.length
  · rw [if_pos h]
    by_cases h1 : x = 1
    · rw [if_pos h1]; subst h1; simp
    · rw [if_neg h1]
      by_cases h2 : x = 2
      · rw [if_pos h2]; simp [h, h2]
      · rw [if_neg h2]; simp [h2]
  · rw [if_neg h]; simp [h]
theorem keep_some (ks : List Int) (j : Nat) : keepN ks j = 0 ∨ keepN ks j = 16 ∨ keepN ks j = 32 := by
  unfold keepN keptR
  (repeat' split) <;> simp
/-- Whether the first sectors are kept whole. -/
def allK (ks : List Int) : Nat → Bool
  | 0 => true
  | n + 1 => allK ks n && decide (keepN ks n = 32)
theorem allK_iff {ks : List Int} : ∀ {n : Nat}, allK ks n = true ↔ ∀ j, j < n → keepN ks j = 32
  | 0 => ⟨fun _ _ h => absurd h (Nat.not_lt_zero _), fun _ => rfl⟩
  | n + 1 => by
    rw [show allK ks (n + 1) = (allK ks n && decide (keepN ks n = 32)) from rfl, Bool.and_eq_true, allK_iff, decide_eq_true_iff]
    constructor
    · rintro ⟨h1, h2⟩ j hj
      rcases Nat.lt_succ_iff_lt_or_eq.1 hj with h | h
      · exact h1 j h
      · rw [h]; exact h2
    · exact fun h => ⟨fun j hj => h j (by omega), h n (by omega)⟩
theorem getD_set {α : Type} {s : List α} {i j : Nat} {x d : α} : (s.set i x).getD j d = if i = j ∧ i < s.length then x else s.getD j d := by
  rw [List.getD_eq_getElem?_getD, List.getD_eq_getElem?_getD, List.getElem?_set]
  by_cases h : i = j
  · subst h
    by_cases h2 : i < s.length
    · simp [h2]
    · simp [h2]
  · simp [h]
theorem set_in {a : Nat} {f : Nat → List UInt8} : ∀ (n : Nat) {s : List (List UInt8)}, a + n ≤ s.length →
    ((putP (a : Int) f n).foldl (fun s p => s.set p.1.toNat p.2) s).length = s.length ∧ ∀ j : Nat, ((putP (a : Int) f n).foldl (fun s p => s.set p.1.toNat p.2) s).getD j [] = if a ≤ j ∧ j < a + n then f (j - a) else s.getD j []
  | 0, s, h => ⟨rfl, fun j => by rw [if_neg (by omega)]; rfl⟩
  | n + 1, s, h => by
    obtain ⟨h1, h2⟩ := set_in (a := a) n (f := f) (s := s) (by omega)
    rw [show putP (a : Int) f (n + 1) = putP (a : Int) f n ++ [((a : Int) + (n : Int), f n)] from rfl, List.foldl_append]
    generalize (putP (a : Int) f n).foldl (fun s p => s.set p.1.toNat p.2) s = t at h1 h2 ⊢
    rw [show [((a : Int) + (n : Int), f n)].foldl (fun s p => s.set p.1.toNat p.2) t = t.set (a + n) (f n) by
      show t.set ((a : Int) + (n : Int)).toNat (f n) = _
      rw [show ((a : Int) + (n : Int)).toNat = a + n by omega]]
    refine ⟨by rw [List.length_set, h1], fun j => ?_⟩
    rw [getD_set, h2 j, h1]
    by_cases hj : a + n = j
    · rw [if_pos ⟨hj, by omega⟩, if_pos ⟨by omega, by omega⟩, show j - a = n by omega]
    · rw [if_neg (by omega)]
      by_cases hc : a ≤ j ∧ j < a + n
      · rw [if_pos hc, if_pos (by omega)]
      · rw [if_neg hc, if_neg (by omega)]
theorem torn_in {a : Nat} {f : Nat → List UInt8} {ks : List Int} : ∀ (n : Nat) {s : List (List UInt8)}, a + n ≤ s.length →
    ((putP (a : Int) f n).zipIdx.foldl (fun s x => s.set x.1.1.toNat (tornR ks x s)) s).length = s.length ∧ ∀ j : Nat, ((putP (a : Int) f n).zipIdx.foldl (fun s x => s.set x.1.1.toNat (tornR ks x s)) s).getD j [] = if a ≤ j ∧ j < a + n then (f (j - a)).take (keepN ks (j - a)) ++ (s.getD j []).drop (keepN ks (j - a)) else s.getD j []
  | 0, s, h => ⟨rfl, fun j => by rw [if_neg (by omega)]; rfl⟩
  | n + 1, s, h => by
    obtain ⟨h1, h2⟩ := torn_in (a := a) n (f := f) (ks := ks) (s := s) (by omega)
    rw [show putP (a : Int) f (n + 1) = putP (a : Int) f n ++ [((a : Int) + (n : Int), f n)] from rfl, List.zipIdx_append, List.foldl_append, putP_len, Nat.zero_add]
    generalize (putP (a : Int) f n).zipIdx.foldl (fun s x => s.set x.1.1.toNat (tornR ks x s)) s = t at h1 h2 ⊢
    have hn : t.getD (a + n) [] = s.getD (a + n) [] := by rw [h2, if_neg (by omega)]
    rw [show ([((a : Int) + (n : Int), f n)].zipIdx n).foldl (fun s x => s.set x.1.1.toNat (tornR ks x s)) t = t.set (a + n) ((f n).take (keepN ks n) ++ (s.getD (a + n) []).drop (keepN ks n)) by
      show t.set ((a : Int) + (n : Int)).toNat ((f n).take (keepN ks n) ++ (t.getD ((a : Int) + (n : Int)).toNat []).drop (keepN ks n)) = _
      rw [show ((a : Int) + (n : Int)).toNat = a + n by omega, hn]]
    refine ⟨by rw [List.length_set, h1], fun j => ?_⟩
    rw [getD_set, h2 j, h1]
    by_cases hj : a + n = j
    · rw [if_pos ⟨hj, by omega⟩, if_pos ⟨by omega, by omega⟩, show j - a = n by omega, hj]
    · rw [if_neg (by omega)]
      by_cases hc : a ≤ j ∧ j < a + n
      · rw [if_pos hc, if_pos (by omega)]
      · rw [if_neg hc, if_neg (by omega)]
/-- The disk behind the torn write. -/
def oldS (a : List UInt8) : DS := (flushR { newR 12 with pend := (newR 12).pend ++ putP 2 (secB 1 4 a) (needN a.length) }).1
def newS (a b : List UInt8) : DS := { oldS a with pend := (oldS a).pend ++ putP 2 (secB 2 4 b) (needN b.length) }
def tornS (a b : List UInt8) (ks : List Int) : DS := crashR (newS a b) ks
def oldAt (a : List UInt8) (k : Nat) : List UInt8 := if k < needN a.length then secB 1 4 a k else zr32
theorem oldS_secs {a : List UInt8} (ha : needN a.length ≤ 9) : (oldS a).secs.length = 12 ∧ (oldS a).pend = [] ∧ Up (oldS a) ∧ ∀ k, k < 10 → (oldS a).secs.getD (2 + k) [] = oldAt a k := by
  have h := set_in (a := 2) (f := secB 1 4 a) (needN a.length) (s := (newR 12).secs) (by rw [newR_len]; simp; omega)
  have e : oldS a = { newR 12 with secs := (putP ((2 : Nat) : Int) (secB 1 4 a) (needN a.length)).foldl (fun s p => s.set p.1.toNat p.2) (newR 12).secs, pend := [] } := by
    unfold oldS flushR
    rw [if_neg (show ¬ ((newR 12).down = true) by simp [newR])]
    rfl
  rw [e]
  refine ⟨by rw [h.1, newR_len]; simp, rfl, ⟨rfl, rfl⟩, fun k hk => ?_⟩
  rw [h.2, show 2 + k - 2 = k by omega]
  unfold oldAt
  by_cases hc : k < needN a.length
  · rw [if_pos hc, if_pos (by omega)]
  · rw [if_neg hc, if_neg (by omega)]
    have : (newR 12).secs = List.replicate 12 zr32 := rfl
    rw [this, List.getD_eq_getElem?_getD, List.getElem?_replicate, if_pos (by omega)]
    rfl
theorem tornS_at {a b : List UInt8} (ks : List Int) (ha : needN a.length ≤ 9) (hb : needN b.length ≤ 9) : (tornS a b ks).down = false ∧ (tornS a b ks).secs.length = 12 ∧ ∀ k : Nat, k < 10 → readR (tornS a b ks) (2 + (k : Int)) = if k < needN b.length then (secB 2 4 b k).take (keepN ks k) ++ (oldAt a k).drop (keepN ks k) else oldAt a k := by
  obtain ⟨h1, h2, h3, h4⟩ := oldS_secs ha
  have h := torn_in (a := 2) (f := secB 2 4 b) (ks := ks) (needN b.length) (s := (oldS a).secs) (by rw [h1]; omega)
  have e : tornS a b ks = { secs := (putP ((2 : Nat) : Int) (secB 2 4 b) (needN b.length)).zipIdx.foldl (fun s x => s.set x.1.1.toNat (tornR ks x s)) (oldS a).secs, pend := [], left := -1, down := false } := by
    unfold tornS newS crashR
    rw [h2]
    rfl
  rw [e]
  refine ⟨rfl, by rw [h.1, h1], fun k hk => ?_⟩
  unfold readR
  rw [show (2 + (k : Int)).toNat = 2 + k by omega]
  show List.getD _ (2 + k) [] = _
  rw [h.2, h4 k hk, show 2 + k - 2 = k by omega]
  by_cases hc : k < needN b.length
  · rw [if_pos hc, if_pos (by omega)]
  · rw [if_neg hc, if_neg (by omega)]
theorem zeros_before {e s p n : Int} {b : List UInt8} (h : sealM e s p n b = true) (he : 1 ≤ e) : openOk ((sealB e s p n b).take 16 ++ zr32.drop 16) = false := by
  have := zeros_not h (.inl (by omega)) 16 (by decide)
  exact this
/-- What opens is one of the two, whole. -/
theorem torn_open {a b : List UInt8} {ks : List Int} (ha : needN a.length ≤ 9) (hb : needN b.length ≤ 9) {k : Nat} (hk : k < 10) (ho : openOk (readR (tornS a b ks) (2 + (k : Int))) = true) :
    (k < needN b.length ∧ keepN ks k = 32 ∧ readR (tornS a b ks) (2 + (k : Int)) = secB 2 4 b k) ∨ (k < needN a.length ∧ readR (tornS a b ks) (2 + (k : Int)) = secB 1 4 a k) := by
  obtain ⟨_, _, hr⟩ := tornS_at (a := a) (b := b) ks ha hb
  have hold : openOk (oldAt a k) = true → k < needN a.length ∧ oldAt a k = secB 1 4 a k := by
    intro h
    unfold oldAt at h ⊢
    by_cases hc : k < needN a.length
    · exact ⟨hc, if_pos hc⟩
    · rw [if_neg hc] at h
      exact absurd h (by decide)
  have holen : (oldAt a k).length = 32 := by
    unfold oldAt
    split
    · exact secB_len (e := 1) (q := 4) (by decide) (by omega) (by assumption)
    · rfl
  rw [hr k hk] at ho ⊢
  by_cases hc : k < needN b.length
  · rw [if_pos hc] at ho ⊢
    have hbl : (secB 2 4 b k).length = 32 := secB_len (by decide) (by omega) hc
    have hsb := seal_part (e := 2) (q := 4) (b := b) (by decide) (by omega) hc
    rcases keep_some ks k with h | h | h
    · rw [h, List.take_zero, List.nil_append, List.drop_zero] at ho ⊢
      exact .inr (hold ho)
    · exfalso
      rw [h] at ho
      by_cases hca : k < needN a.length
      · have hsa := seal_part (e := 1) (q := 4) (b := a) (by decide) (by omega) hca
        rw [show oldAt a k = secB 1 4 a k from if_pos hca] at ho
        have := halves_not hsb hsa (by decide) 16 (by decide)
        exact absurd (ho.symm.trans this) (by decide)
      · rw [show oldAt a k = zr32 from if_neg hca] at ho
        exact absurd (ho.symm.trans (zeros_before hsb (by decide))) (by decide)
    · rw [h] at ho ⊢
      refine .inl ⟨hc, rfl, ?_⟩
      rw [List.take_of_length_le (by omega), List.drop_eq_nil_of_le (by omega), List.append_nil]
  · rw [if_neg hc] at ho ⊢
    exact .inr (hold ho)
theorem allK_holds {a b : List UInt8} {ks : List Int} (ha : needN a.length ≤ 9) (hb : needN b.length ≤ 9) (h : allK ks (needN b.length) = true) : Holds (tornS a b ks) 2 2 4 b := by
  obtain ⟨_, _, hr⟩ := tornS_at (a := a) (b := b) ks ha hb
  refine ⟨by decide, by omega, fun k hk => ?_⟩
  rw [hr k (by omega), if_pos hk, allK_iff.1 h k hk]
  have hbl : (secB 2 4 b k).length = 32 := secB_len (by decide) (by omega) hk
  have holen : (oldAt a k).length ≤ 32 := by
    unfold oldAt
    split
    · exact Nat.le_of_eq (secB_len (e := 1) (q := 4) (by decide) (by omega) (by assumption))
    · exact Nat.le_refl _
  rw [List.take_of_length_le (by omega), List.drop_eq_nil_of_le (by omega), List.append_nil]
theorem flush_old (a : List UInt8) : flushR { newR 12 with pend := (newR 12).pend ++ putP 2 (secB 1 4 a) (needN a.length) } = (oldS a, 0) := by
  unfold oldS flushR
  rw [if_neg (show ¬ ((newR 12).down = true) by simp [newR])]
theorem allK_tt {ks : List Int} {k : Nat} (h : allK ks k = true) (hk : (k : Int) < (ks.length : Nat)) : decide (iat ks (k : Int) = 2) = allK ks (k + 1) := by
  show _ = (allK ks k && decide (keepN ks k = 32))
  rw [h, Bool.true_and]
  exact decide_eq_decide.2 ⟨fun h2 => keep32.2 ⟨by omega, h2⟩, fun h2 => (keep32.1 h2).2⟩
theorem allK_tf {ks : List Int} {k : Nat} (hk : ¬ (k : Int) < (ks.length : Nat)) : false = allK ks (k + 1) := by
  show _ = (allK ks k && decide (keepN ks k = 32))
  rw [decide_eq_false (fun h2 => hk (by have := (keep32.1 h2).1; omega)), Bool.and_false]
theorem allK_f {ks : List Int} {k : Nat} (h : allK ks k = false) : false = allK ks (k + 1) := by
  show _ = (allK ks k && decide (keepN ks k = 32))
  rw [h, Bool.false_and]
/-- The law: a torn record is read whole, as the older one, or not at all. -/
theorem torn_law {a b : List UInt8} {ks : List Int} (ha : needN a.length ≤ 9) (hb : needN b.length ≤ 9) {re rq rn rer : Int} {rb : List UInt8} (hr : FrR (tornS a b ks) 2 12 (re, rq, rb, rn, rer)) :
    (rer = 2 ∧ rb = [] ∧ allK ks (needN b.length) = false) ∨ (rer = 0 ∧ re = 2 ∧ rq = 4 ∧ rb = b ∧ allK ks (needN b.length) = true) ∨ (rer = 0 ∧ re = 1 ∧ rq = 4 ∧ rb = a) := by
  obtain ⟨hdn, hsl, hat⟩ := tornS_at (a := a) (b := b) ks ha hb
  have hna := need_room a.length
  have hnb := need_room b.length
  by_cases hall : allK ks (needN b.length) = true
  · have h := (allK_holds ha hb hall).read hdn (by decide) (by omega) (by rw [hsl]; decide) hr
    simp only [Prod.mk.injEq] at h
    exact .inr (.inl ⟨h.2.2.2.2, h.1, h.2.1, h.2.2.1, hall⟩)
  · have hr0 := hr
    unfold FrR at hr
    rw [if_neg (by rw [hsl]; decide)] at hr
    obtain ⟨ge, gq, gb, parts, ger, hg, h⟩ := hr
    rcases hg with ⟨h1, _⟩ | ⟨_, ⟨n, h1, h2, h3, _⟩ | ⟨k, _, _, _, _, _, rfl, _, rfl⟩⟩
    · rw [hdn] at h1; cases h1
    · have hopen : ∀ k, k < n → openOk (readR (tornS a b ks) (2 + (k : Int))) = true := fun k hk => by
        have := (h3 k hk).2.1
        unfold oAt at this
        rw [openR_err] at this
        by_cases hx : openOk (readR (tornS a b ks) (2 + (k : Int))) = true
        · exact hx
        · rw [if_neg hx] at this; cases this
      have hn10 : ∀ k, k < n → k < 10 := fun k hk => by have := (h3 k hk).1; omega
      rcases torn_open ha hb (k := 0) (by decide) (hopen 0 (by omega)) with ⟨hk, _, h0⟩ | ⟨hk, h0⟩
      · exfalso
        have o0 : oAt (tornS a b ks) 2 0 = ⟨2, 4, ((0 : Nat) : Int), (needN b.length : Nat), partB b 0, 0⟩ := by
          unfold oAt
          rw [h0]
          exact secB_open (by decide) (by omega) hk
        rw [o0] at h2
        dsimp only at h2
        apply hall
        rw [allK_iff]
        intro j hj
        have hjn : j < n := by omega
        rcases torn_open ha hb (hn10 j hjn) (hopen j hjn) with ⟨_, hkj, _⟩ | ⟨hka, hj0⟩
        · exact hkj
        · have he := (h3 j hjn).2.2.1
          rw [o0] at he
          unfold oAt at he
          rw [hj0, secB_open (e := 1) (q := 4) (by decide) (by omega) hka] at he
          exact absurd he (by simp)
      · have o0 : oAt (tornS a b ks) 2 0 = ⟨1, 4, ((0 : Nat) : Int), (needN a.length : Nat), partB a 0, 0⟩ := by
          unfold oAt
          rw [h0]
          exact secB_open (by decide) (by omega) hk
        rw [o0] at h2
        dsimp only at h2
        have hh : Holds (tornS a b ks) 2 1 4 a := by
          refine ⟨by decide, by omega, fun j hj => ?_⟩
          have hjn : j < n := by omega
          rcases torn_open ha hb (hn10 j hjn) (hopen j hjn) with ⟨hkb, _, hj0⟩ | ⟨_, hj0⟩
          · have he := (h3 j hjn).2.2.1
            rw [o0] at he
            unfold oAt at he
            rw [hj0, secB_open (e := 2) (q := 4) (by decide) (by omega) hkb] at he
            exact absurd he (by simp)
          · exact hj0
        have h := hh.read hdn (by decide) (by omega) (by rw [hsl]; decide) hr0
        simp only [Prod.mk.injEq] at h
        exact .inr (.inr ⟨h.2.2.2.2, h.1, h.2.1, h.2.2.1⟩)
    · refine .inl ⟨?_, ?_, by simpa using hall⟩
      all_goals
        unfold readEnd at h
        rw [if_pos (by decide)] at h
        simp only [Prod.mk.injEq] at h
      · exact h.2.2.2.2
      · exact h.2.2.1
end Go.Proofs.YtcbndkllppmmmaaX
