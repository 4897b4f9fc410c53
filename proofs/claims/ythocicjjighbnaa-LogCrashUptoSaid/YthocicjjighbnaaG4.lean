/- Plain: marks ahead and behind of sectors; how a reading depends on sectors; records found. No program in sight. -/
import Derived.Test.YthocicjjighbnaaG3
namespace Go.Proofs.YthocicjjighbnaaX
set_option linter.unusedVariables false
set_option linter.unusedSimpArgs false
open Go Go.RowKit

/-! ### Marks -/
def tlE (x : List UInt8) : Int := bat x 30 * 2 ^ 8 + bat x 31
def tlQ (x : List UInt8) : Int := bat x 27 * 2 ^ 16 + bat x 28 * 2 ^ 8 + bat x 29
theorem bat_nat (x : List UInt8) (k : Nat) : bat x (k : Int) = ((x.getD k 0).toNat : Int) := rfl
theorem bat_drop (x : List UInt8) (i k : Nat) : bat (x.drop i) (k : Int) = bat x ((i + k : Nat) : Int) := by
  rw [bat_nat, bat_nat, List.getD_eq_getElem?_getD, List.getD_eq_getElem?_getD, List.getElem?_drop]
theorem tl_drop (x : List UInt8) : tlQ x = bat (x.drop 27) 0 * 2 ^ 16 + bat (x.drop 27) 1 * 2 ^ 8 + bat (x.drop 27) 2 ∧ tlE x = bat (x.drop 27) 3 * 2 ^ 8 + bat (x.drop 27) 4 := by
  have h0 := bat_drop x 27 0
  have h1 := bat_drop x 27 1
  have h2 := bat_drop x 27 2
  have h3 := bat_drop x 27 3
  have h4 := bat_drop x 27 4
  unfold tlQ tlE
  constructor
  · rw [show (0 : Int) = ((0 : Nat) : Int) from rfl, show (1 : Int) = ((1 : Nat) : Int) from rfl, show bat (x.drop 27) 2 = bat (x.drop 27) ((2 : Nat) : Int) from rfl, h0, h1, h2]
    rfl
  · rw [show bat (x.drop 27) 3 = bat (x.drop 27) ((3 : Nat) : Int) from rfl, show bat (x.drop 27) 4 = bat (x.drop 27) ((4 : Nat) : Int) from rfl, h3, h4]
    rfl
theorem seal_tl {e s p n : Int} {b : List UInt8} (h : sealM e s p n b = true) : tlE (sealB e s p n b) = e ∧ tlQ (sealB e s p n b) = s := by
  obtain ⟨he, hs, _, _, _, hb⟩ := sealM_parts h
  obtain ⟨h1, h2⟩ := tl_drop (sealB e s p n b)
  rw [h1, h2, sealB_tail hb]
  have g0 : bat (three s ++ two e) 0 = (s / 2 ^ 16) % 256 := by show ((u8 (s / 2 ^ 16)).toNat : Int) = _; rw [u8_toNat]
  have g1 : bat (three s ++ two e) 1 = (s / 2 ^ 8) % 256 := by show ((u8 (s / 2 ^ 8)).toNat : Int) = _; rw [u8_toNat]
  have g2 : bat (three s ++ two e) 2 = s % 256 := by show ((u8 s).toNat : Int) = _; rw [u8_toNat]
  have g3 : bat (three s ++ two e) 3 = (e / 2 ^ 8) % 256 := by show ((u8 (e / 2 ^ 8)).toNat : Int) = _; rw [u8_toNat]
  have g4 : bat (three s ++ two e) 4 = e % 256 := by show ((u8 e).toNat : Int) = _; rw [u8_toNat]
  rw [g0, g1, g2, g3, g4]
  omega
theorem openR_err0 {x : List UInt8} (h : (openR x).err = 0) : openOk x = true := by
  rw [openR_err] at h
  cases ho : openOk x
  · rw [ho] at h; cases h
  · rfl
theorem open_marks {x : List UInt8} (h : (openR x).err = 0) : epochOf x = (openR x).e ∧ seqOf x = (openR x).q ∧ tlE x = (openR x).e ∧ tlQ x = (openR x).q := by
  have ho := openR_err0 h
  obtain ⟨_, _, h3, h4⟩ := openOk_parts ho
  have ht := seal_tl h3
  rw [h4] at ht
  rw [openR_ok ho]
  exact ⟨rfl, rfl, ht.1, ht.2⟩
theorem seal_hd {e s p n : Int} {b : List UInt8} (h : sealM e s p n b = true) : epochOf (sealB e s p n b) = e ∧ seqOf (sealB e s p n b) = s := ⟨(sealB_open h).1, (sealB_open h).2.1⟩
def mixB (u v : List UInt8) : List UInt8 := u.take 16 ++ v.drop 16
theorem mix_hd {u v : List UInt8} (hu : u.length = 32) : epochOf (mixB u v) = epochOf u ∧ seqOf (mixB u v) = seqOf u := by
  have g : ∀ k : Nat, k < 16 → bat (mixB u v) (k : Int) = bat u (k : Int) := by
    intro k hk
    rw [bat_nat, bat_nat, List.getD_eq_getElem?_getD, List.getD_eq_getElem?_getD]
    unfold mixB
    rw [List.getElem?_append_left (by rw [List.length_take]; omega), List.getElem?_take, if_pos hk]
  have g0 := g 0 (by decide); have g1 := g 1 (by decide); have g2 := g 2 (by decide); have g3 := g 3 (by decide); have g4 := g 4 (by decide)
  unfold epochOf seqOf
  exact ⟨by rw [show (0 : Int) = ((0 : Nat) : Int) from rfl, show (1 : Int) = ((1 : Nat) : Int) from rfl, g0, g1],
    by rw [show ∀ z, bat z 2 = bat z ((2 : Nat) : Int) from fun _ => rfl, show ∀ z, bat z 3 = bat z ((3 : Nat) : Int) from fun _ => rfl, show ∀ z, bat z 4 = bat z ((4 : Nat) : Int) from fun _ => rfl, g2, g3, g4]; rfl⟩
theorem mix_tl {u v : List UInt8} (hu : u.length = 32) : tlE (mixB u v) = tlE v ∧ tlQ (mixB u v) = tlQ v := by
  have e : (mixB u v).drop 27 = v.drop 27 := by
    unfold mixB
    rw [List.drop_append, List.drop_eq_nil_of_le (by rw [List.length_take]; omega), List.length_take, List.drop_drop, hu]
    rfl
  obtain ⟨h1, h2⟩ := tl_drop (mixB u v)
  obtain ⟨h3, h4⟩ := tl_drop v
  rw [h1, h2, h3, h4, e]
  exact ⟨rfl, rfl⟩
/-! ### A record read -/
theorem gB_eq {S S' : DS} {at_ : Int} : ∀ n, (∀ k, k < n → oAt S' at_ k = oAt S at_ k) → gB S' at_ n = gB S at_ n
  | 0, _ => rfl
  | n + 1, h => by
    show gB S' at_ n ++ (oAt S' at_ n).b = gB S at_ n ++ (oAt S at_ n).b
    rw [gB_eq n (fun k hk => h k (by omega)), h n (by omega)]
theorem okP_eq {S S' : DS} {at_ : Int} {k : Nat} (h0 : oAt S' at_ 0 = oAt S at_ 0) (h : oAt S' at_ k = oAt S at_ k) : okP S' at_ k = okP S at_ k := by
  unfold okP
  rw [h0, h]
theorem okP_pos {S : DS} {at_ : Int} (h : okP S at_ 0) : 1 ≤ (oAt S at_ 0).n := by
  have h1 := openR_pos (s := readR S (at_ + ((0 : Nat) : Int))) h.1
  have h2 : (oAt S at_ 0).p < (oAt S at_ 0).n ∧ 0 ≤ (oAt S at_ 0).p := h1
  omega
theorem gather_fun {S : DS} {at_ end_ e q parts er e' q' parts' er' : Int} {b b' : List UInt8} (h : GatherR S at_ end_ e q b parts er) (h' : GatherR S at_ end_ e' q' b' parts' er') : e = e' ∧ q = q' ∧ b = b' ∧ parts = parts' ∧ er = er' := by
  rcases h with ⟨hd, rfl, rfl, rfl, rfl, rfl⟩ | ⟨hd, h⟩
  · rcases h' with ⟨_, rfl, rfl, rfl, rfl, rfl⟩ | ⟨hd', _⟩
    · exact ⟨rfl, rfl, rfl, rfl, rfl⟩
    · rw [hd] at hd'; cases hd'
  · rcases h' with ⟨hd', _⟩ | ⟨_, h'⟩
    · rw [hd] at hd'; cases hd'
    · rcases h with ⟨n, h1, h2, h3, rfl, rfl, rfl, rfl, rfl⟩ | ⟨k, h1, h2, h3, rfl, rfl, rfl, rfl, rfl⟩
      · rcases h' with ⟨n', h1', h2', h3', rfl, rfl, rfl, rfl, rfl⟩ | ⟨k, h1', h2', h3', _⟩
        · obtain rfl : n = n' := by omega
          exact ⟨rfl, rfl, rfl, rfl, rfl⟩
        · exact absurd (h3 k (by omega)) h3'
      · rcases h' with ⟨n', h1', h2', h3', _⟩ | ⟨k', _, _, _, rfl, rfl, rfl, rfl, rfl⟩
        · exact absurd (h3' k (by omega)) h3
        · exact ⟨rfl, rfl, rfl, rfl, rfl⟩
theorem frr_fun {S : DS} {at_ end_ : Int} {r r' : Int × Int × List UInt8 × Int × Int} (h : FrR S at_ end_ r) (h' : FrR S at_ end_ r') : r = r' := by
  unfold FrR at h h'
  split at h
  · rename_i hc
    rw [if_pos hc] at h'
    rw [h, h']
  · rename_i hc
    rw [if_neg hc] at h'
    obtain ⟨_, _, _, _, _, hg, rfl⟩ := h
    obtain ⟨_, _, _, _, _, hg', rfl⟩ := h'
    obtain ⟨rfl, rfl, rfl, rfl, rfl⟩ := gather_fun hg hg'
    rfl
theorem least_or (P : Nat → Prop) [DecidablePred P] : ∀ n, (∀ k, k < n → P k) ∨ ∃ k, k < n ∧ (∀ j, j < k → P j) ∧ ¬ P k
  | 0 => .inl fun k h => absurd h (Nat.not_lt_zero _)
  | n + 1 => by
    rcases least_or P n with h | ⟨k, h1, h2⟩
    · by_cases hn : P n
      · exact .inl fun k hk => by
          by_cases h' : k < n
          · exact h k h'
          · obtain rfl : k = n := by omega
            exact hn
      · exact .inr ⟨n, by omega, h, hn⟩
    · exact .inr ⟨k, by omega, h2⟩
theorem frr_ex (S : DS) (at_ end_ : Int) : ∃ r, FrR S at_ end_ r := by
  unfold FrR
  split
  · exact ⟨_, rfl⟩
  · cases hd : S.down
    · by_cases h0 : at_ + ((0 : Nat) : Int) < end_ ∧ okP S at_ 0
      · have hp := okP_pos h0.2
        rcases least_or (fun k => at_ + (k : Int) < end_ ∧ okP S at_ k) (oAt S at_ 0).n.toNat with h | ⟨k, h1, h2, h3⟩
        · exact ⟨_, _, _, _, _, _, .inr ⟨hd, .inl ⟨(oAt S at_ 0).n.toNat, by omega, by omega, h, rfl, rfl, rfl, rfl, rfl⟩⟩, rfl⟩
        · exact ⟨_, _, _, _, _, _, .inr ⟨hd, .inr ⟨k, .inr (by omega), h2, h3, rfl, rfl, rfl, rfl, rfl⟩⟩, rfl⟩
      · exact ⟨_, _, _, _, _, _, .inr ⟨hd, .inr ⟨0, .inl rfl, fun j h => absurd h (Nat.not_lt_zero _), h0, rfl, rfl, rfl, rfl, rfl⟩⟩, rfl⟩
    · exact ⟨_, _, _, _, _, _, .inl ⟨hd, rfl, rfl, rfl, rfl, rfl⟩, rfl⟩
theorem oAt_eq {S S' : DS} {at_ lim : Int} (hr : ∀ p, at_ ≤ p → p < lim → readR S' p = readR S p) {k : Nat} (hk : at_ + (k : Int) < lim) : oAt S' at_ k = oAt S at_ k := by
  unfold oAt
  rw [hr _ (by omega) hk]
/-- A reading depends on the sectors up to its end alone. -/
theorem frr_in {S S' : DS} (hl : S'.secs.length = S.secs.length) (hdn : S'.down = S.down) {at_ end_ : Int} (hr : ∀ p, at_ ≤ p → p < end_ → readR S' p = readR S p) {r : Int × Int × List UInt8 × Int × Int} (h : FrR S at_ end_ r) : FrR S' at_ end_ r := by
  unfold FrR at h ⊢
  rw [hl]
  split
  · rename_i hc
    rwa [if_pos hc] at h
  · rename_i hc
    rw [if_neg hc] at h
    obtain ⟨ge, gq, gb, parts, ger, hg, rfl⟩ := h
    refine ⟨ge, gq, gb, parts, ger, ?_, rfl⟩
    have h0 : oAt S' at_ 0 = oAt S at_ 0 := oAt_eq hr (by omega)
    rcases hg with ⟨hd, h⟩ | ⟨hd, h⟩
    · exact .inl ⟨by rw [hdn, hd], h⟩
    · refine .inr ⟨by rw [hdn, hd], ?_⟩
      have hok : ∀ k : Nat, at_ + (k : Int) < end_ → okP S' at_ k = okP S at_ k := fun k hk => okP_eq h0 (oAt_eq hr hk)
      rcases h with ⟨n, h1, h2, h3, h4, h5, h6, h7, h8⟩ | ⟨k, h1, h2, h3, h4⟩
      · exact .inl ⟨n, h1, by rw [h0]; exact h2, fun k hk => ⟨(h3 k hk).1, by rw [hok k (h3 k hk).1]; exact (h3 k hk).2⟩, by rw [h0]; exact h4, by rw [h0]; exact h5, by rw [gB_eq n (fun k hk => oAt_eq hr (h3 k hk).1)]; exact h6, h7, h8⟩
      · exact .inr ⟨k, by rw [h0]; exact h1, fun j hj => ⟨(h2 j hj).1, by rw [hok j (h2 j hj).1]; exact (h2 j hj).2⟩, fun hc => h3 ⟨hc.1, by rw [← hok k hc.1]; exact hc.2⟩, h4⟩
/-- What stands behind a record that is read. -/
theorem frr_inv {S : DS} {at_ end_ e q next : Int} {b : List UInt8} (h : FrR S at_ end_ (e, q, b, next, 0)) : ∃ n : Nat, 1 ≤ n ∧ next = at_ + (n : Int) ∧ (oAt S at_ 0).n = (n : Int) ∧ (∀ k : Nat, k < n → at_ + (k : Int) < end_ ∧ okP S at_ k) ∧ e = (oAt S at_ 0).e ∧ q = (oAt S at_ 0).q ∧ 0 ≤ at_ ∧ end_ ≤ S.secs.length ∧ S.down = false ∧ readEnd at_ e q (gB S at_ n) (n : Int) 0 = (e, q, b, next, 0) := by
  unfold FrR at h
  split at h
  · simp at h
  · rename_i hr
    obtain ⟨ge, gq, gb, parts, ger, hg, h⟩ := h
    have he0 : ger = 0 := by
      by_cases he : ger = 0
      · exact he
      · unfold readEnd at h
        rw [if_pos he] at h
        simp only [Prod.mk.injEq] at h
        exact h.2.2.2.2.symm
    subst he0
    rcases hg with ⟨_, _, _, _, _, h'⟩ | ⟨hd, ⟨n, h1, h2, h3, h4, h5, h6, h7, h8⟩ | ⟨k, _, _, _, _, _, _, _, h8⟩⟩
    · cases h'
    · subst h6 h7
      have h' := h
      unfold readEnd at h'
      rw [if_neg (by decide)] at h'
      split at h'
      · simp at h'
      · simp only [Prod.mk.injEq] at h'
        obtain ⟨rfl, rfl, _, rfl, _⟩ := h'
        exact ⟨n, h1, rfl, h2, h3, h4, h5, by omega, by omega, hd, h.symm⟩
    · cases h8
theorem frr_mk {S : DS} {at_ end_ e q next : Int} {b : List UInt8} {n : Nat} (h1 : 1 ≤ n) (h2 : (oAt S at_ 0).n = (n : Int)) (h3 : ∀ k : Nat, k < n → at_ + (k : Int) < end_ ∧ okP S at_ k) (h4 : e = (oAt S at_ 0).e) (h5 : q = (oAt S at_ 0).q) (h6 : 0 ≤ at_) (h7 : end_ ≤ S.secs.length) (h8 : S.down = false)
    (h9 : readEnd at_ e q (gB S at_ n) (n : Int) 0 = (e, q, b, next, 0)) : FrR S at_ end_ (e, q, b, next, 0) := by
  have := (h3 0 (by omega)).1
  unfold FrR
  rw [if_neg (by omega)]
  exact ⟨e, q, _, _, 0, .inr ⟨h8, .inl ⟨n, h1, h2, h3, h4, h5, rfl, rfl, rfl⟩⟩, h9.symm⟩
/-- A record that is read depends on its own sectors alone. -/
theorem frr_loc {S S' : DS} (hl : S'.secs.length = S.secs.length) (hdn : S'.down = S.down) {at_ end_ e q next : Int} {b : List UInt8} (h : FrR S at_ end_ (e, q, b, next, 0)) (hr : ∀ p, at_ ≤ p → p < next → readR S' p = readR S p) : FrR S' at_ end_ (e, q, b, next, 0) := by
  obtain ⟨n, h1, rfl, h2, h3, h4, h5, h6, h7, h8, h9⟩ := frr_inv h
  have ho : ∀ k : Nat, k < n → oAt S' at_ k = oAt S at_ k := fun k hk => oAt_eq hr (by omega)
  have h0 := ho 0 (by omega)
  exact frr_mk h1 (by rw [h0]; exact h2) (fun k hk => ⟨(h3 k hk).1, by rw [okP_eq h0 (ho k hk)]; exact (h3 k hk).2⟩) (by rw [h0]; exact h4) (by rw [h0]; exact h5) h6 (by rw [hl]; exact h7) (by rw [hdn]; exact h8) (by rw [gB_eq n ho]; exact h9)
theorem frr_holds {S : DS} {at_ end_ e q : Int} {b : List UInt8} (h : Holds S at_ e q b) (hd : S.down = false) (h0 : 0 ≤ at_) (he : at_ + (needN b.length : Nat) ≤ end_) (hl : end_ ≤ S.secs.length) : FrR S at_ end_ (e, q, b, at_ + (needN b.length : Nat), 0) := by
  have hn := need_room b.length
  have ho := h.o (k := 0) (by omega)
  refine frr_mk (n := needN b.length) hn.2.2 (by rw [ho]) (fun k hk => ⟨by omega, h.ok hk⟩) (by rw [ho]) (by rw [ho]) h0 hl hd ?_
  rw [h.all]
  exact readEnd_whole _ _ _ _
/-! ### Records found -/
def NoRec (S : DS) (en e least p nx : Int) : Prop := ∀ me b next, FrR S p en (me, nx, b, next, 0) → least ≤ me → me ≤ e → False
theorem recs_stop {S : DS} {en e least p nx : Int} (h : NoRec S en e least p nx) : Recs S en e least p nx [] p nx := by
  obtain ⟨⟨me, mq, b, next, er⟩, hr⟩ := frr_ex S p en
  refine .stop hr ?_
  by_cases h1 : er = 0
  · by_cases h2 : mq = nx
    · by_cases h3 : least ≤ me
      · by_cases h4 : me ≤ e
        · subst h1 h2
          exact (h _ _ _ hr h3 h4).elim
        · exact .inr (.inr (.inr (by omega)))
      · exact .inr (.inr (.inl (by omega)))
    · exact .inr (.inl h2)
  · exact .inl h1
theorem recs_rng {S : DS} {en e least p nx a n : Int} {bs : List (List UInt8)} (h : Recs S en e least p nx bs a n) : p ≤ a ∧ n = nx + (bs.length : Nat) ∧ (p ≤ en → a ≤ en) := by
  induction h with
  | stop => exact ⟨Int.le_refl _, by simp, id⟩
  | step h _ _ _ ih =>
    obtain ⟨m, h1, h2, _, h3, _⟩ := frr_inv h
    have := (h3 (m - 1) (by omega)).1
    rw [List.length_cons]
    omega
theorem recs_fun {S : DS} {en e least p nx a n a' n' : Int} {bs bs' : List (List UInt8)} (h : Recs S en e least p nx bs a n) : Recs S en e least p nx bs' a' n' → bs = bs' ∧ a = a' ∧ n = n' := by
  induction h generalizing bs' with
  | stop h1 h2 =>
    intro h'
    cases h' with
    | stop => exact ⟨rfl, rfl, rfl⟩
    | step h3 h4 h5 h6 =>
      have := frr_fun h1 h3
      simp only [Prod.mk.injEq] at this
      omega
  | step h1 h2 h3 h4 ih =>
    intro h'
    cases h' with
    | stop h5 h6 =>
      have := frr_fun h1 h5
      simp only [Prod.mk.injEq] at this
      omega
    | step h5 h6 h7 h8 =>
      have := frr_fun h1 h5
      simp only [Prod.mk.injEq] at this
      obtain ⟨rfl, _, rfl, rfl, _⟩ := this
      obtain ⟨rfl, rfl, rfl⟩ := ih h8
      exact ⟨rfl, rfl, rfl⟩
/-- The records found stand where their sectors stand; what comes behind them comes behind them. -/
theorem recs_ext {S S' : DS} (hl : S'.secs.length = S.secs.length) (hdn : S'.down = S.down) {en e e' : Int} (he : e ≤ e') {least p nx a n : Int} {bs : List (List UInt8)} (h : Recs S en e least p nx bs a n) : (∀ x, p ≤ x → x < a → readR S' x = readR S x) →
    ∃ least', least ≤ least' ∧ (least' = least ∨ least' ≤ e) ∧ NoRec S en e least' a n ∧ ∀ bs2 a2 n2, Recs S' en e' least' a n bs2 a2 n2 → Recs S' en e' least p nx (bs ++ bs2) a2 n2 := by
  induction h with
  | stop h1 h2 =>
    intro _
    refine ⟨_, Int.le_refl _, .inl rfl, fun me b next h3 h4 h5 => ?_, fun bs2 a2 n2 h => h⟩
    have := frr_fun h1 h3
    simp only [Prod.mk.injEq] at this
    omega
  | step h1 h2 h3 h4 ih =>
    intro hr
    have hle := recs_rng h4
    obtain ⟨m, m1, m2, _⟩ := frr_inv h1
    obtain ⟨l', i1, i2, i3, i4⟩ := ih (fun x hx hx2 => hr x (by omega) hx2)
    refine ⟨l', by omega, .inr (by omega), i3, fun bs2 a2 n2 h => .step (frr_loc hl hdn h1 (fun x hx hx2 => hr x hx (by omega))) h2 (by omega) (i4 bs2 a2 n2 h)⟩
end Go.Proofs.YthocicjjighbnaaX
