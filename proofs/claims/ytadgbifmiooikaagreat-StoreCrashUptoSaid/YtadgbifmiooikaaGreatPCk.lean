/- Parts of a proof, joined: walks through the program's functions and their laws, in the order in which they need each other. -/
import Derived.Test.YtadgbifmiooikaaGreatPCj
import Derived.Test.YtadgbifmiooikaaGreatPCb
import Derived.Test.YtadgbifmiooikaaGreatPCg
namespace Go.Proofs.YtadgbifmiooikaaGreatX
set_option linter.unusedVariables false
set_option linter.unusedSimpArgs false
open Go Go.RowKit
def tlE (x : List UInt8) : Int := bat x 30 * 2 ^ 8 + bat x 31
def tlQ (x : List UInt8) : Int := bat x 27 * 2 ^ 16 + bat x 28 * 2 ^ 8 + bat x 29
theorem bat_nat (x : List UInt8) (k : Nat) : bat x (k : Int) = ((x.getD k 0).toNat : Int) := rfl
theorem bat_drop (x : List UInt8) (i k : Nat) : bat (x.drop i) (k : Int) = bat x ((i + k : Nat) : Int) := by
  rw [bat_nat, bat_nat, List.getD_eq_getElem?_getD, List.getD_eq_getElem?_getD, List.getElem?_drop]
theorem tl_drop (x : List UInt8) : tlQ x = bat (x.drop 27) 0 * 2 ^ 16 + bat (x.drop 27) 1 * 2 ^ 8 + bat (x.drop 27) 2 ∧ tlE x = bat (x.drop 27) 3 * 2 ^ 8 + bat (x.drop 27) 4 := by
  have h0 := bat_drop x 27 0; have h1 := bat_drop x 27 1; have h2 := bat_drop x 27 2; have h3 := bat_drop x 27 3; have h4 := bat_drop x 27 4; unfold tlQ tlE
  constructor
  · rw [show (0 : Int) = ((0 : Nat) : Int) from rfl, show (1 : Int) = ((1 : Nat) : Int) from rfl, show bat (x.drop 27) 2 = bat (x.drop 27) ((2 : Nat) : Int) from rfl, h0, h1, h2]
    rfl
  · rw [show bat (x.drop 27) 3 = bat (x.drop 27) ((3 : Nat) : Int) from rfl, show bat (x.drop 27) 4 = bat (x.drop 27) ((4 : Nat) : Int) from rfl, h3, h4]
    rfl
theorem seal_tl {e s p n : Int} {b : List UInt8} (h : sealM e s p n b = true) : tlE (sealB e s p n b) = e ∧ tlQ (sealB e s p n b) = s := by
  obtain ⟨he, hs, _, _, _, hb⟩ := sealM_parts h; obtain ⟨h1, h2⟩ := tl_drop (sealB e s p n b); rw [h1, h2, sealB_tail hb]
  have g0 : bat (three s ++ two e) 0 = (s / 2 ^ 16) % 256 := by show ((u8 (s / 2 ^ 16)).toNat : Int) = _; rw [u8_toNat]
  have g1 : bat (three s ++ two e) 1 = (s / 2 ^ 8) % 256 := by show ((u8 (s / 2 ^ 8)).toNat : Int) = _; rw [u8_toNat]
  have g2 : bat (three s ++ two e) 2 = s % 256 := by show ((u8 s).toNat : Int) = _; rw [u8_toNat]
  have g3 : bat (three s ++ two e) 3 = (e / 2 ^ 8) % 256 := by show ((u8 (e / 2 ^ 8)).toNat : Int) = _; rw [u8_toNat]
  have g4 : bat (three s ++ two e) 4 = e % 256 := by show ((u8 e).toNat : Int) = _; rw [u8_toNat]
  rw [g0, g1, g2, g3, g4]; omega
theorem openR_err0 {x : List UInt8} (h : (openR x).err = 0) : openOk x = true := by
  rw [openR_err] at h
  cases ho : openOk x
  · rw [ho] at h; cases h
  · rfl
theorem open_marks {x : List UInt8} (h : (openR x).err = 0) : epochOf x = (openR x).e ∧ seqOf x = (openR x).q ∧ tlE x = (openR x).e ∧ tlQ x = (openR x).q := by
  have ho := openR_err0 h; obtain ⟨_, _, h3, h4⟩ := openOk_parts ho; have ht := seal_tl h3; rw [h4] at ht; rw [openR_ok ho]; exact ⟨rfl, rfl, ht.1, ht.2⟩
theorem seal_hd {e s p n : Int} {b : List UInt8} (h : sealM e s p n b = true) : epochOf (sealB e s p n b) = e ∧ seqOf (sealB e s p n b) = s := ⟨(sealB_open h).1, (sealB_open h).2.1⟩
def mixB (u v : List UInt8) : List UInt8 := u.take 16 ++ v.drop 16
theorem mix_hd {u v : List UInt8} (hu : u.length = 32) : epochOf (mixB u v) = epochOf u ∧ seqOf (mixB u v) = seqOf u := by
  have g : ∀ k : Nat, k < 16 → bat (mixB u v) (k : Int) = bat u (k : Int) := by
    intro k hk; rw [bat_nat, bat_nat, List.getD_eq_getElem?_getD, List.getD_eq_getElem?_getD]; unfold mixB; rw [List.getElem?_append_left (by rw [List.length_take]; omega), List.getElem?_take, if_pos hk]
  have g0 := g 0 (by decide); have g1 := g 1 (by decide); have g2 := g 2 (by decide); have g3 := g 3 (by decide); have g4 := g 4 (by decide); unfold epochOf seqOf
  exact ⟨by rw [show (0 : Int) = ((0 : Nat) : Int) from rfl, show (1 : Int) = ((1 : Nat) : Int) from rfl, g0, g1],
    by rw [show ∀ z, bat z 2 = bat z ((2 : Nat) : Int) from fun _ => rfl, show ∀ z, bat z 3 = bat z ((3 : Nat) : Int) from fun _ => rfl, show ∀ z, bat z 4 = bat z ((4 : Nat) : Int) from fun _ => rfl, g2, g3, g4]; rfl⟩
theorem mix_tl {u v : List UInt8} (hu : u.length = 32) : tlE (mixB u v) = tlE v ∧ tlQ (mixB u v) = tlQ v := by
  have e : (mixB u v).drop 27 = v.drop 27 := by
    unfold mixB; rw [List.drop_append, List.drop_eq_nil_of_le (by rw [List.length_take]; omega), List.length_take, List.drop_drop, hu]
    rfl
  obtain ⟨h1, h2⟩ := tl_drop (mixB u v); obtain ⟨h3, h4⟩ := tl_drop v; rw [h1, h2, h3, h4, e]; exact ⟨rfl, rfl⟩
theorem gB_eq {S S' : DS} {at_ : Int} : ∀ n, (∀ k, k < n → oAt S' at_ k = oAt S at_ k) → gB S' at_ n = gB S at_ n
  | 0, _ => rfl
  | n + 1, h => by
    show gB S' at_ n ++ (oAt S' at_ n).b = gB S at_ n ++ (oAt S at_ n).b
    rw [gB_eq n (fun k hk => h k (by omega)), h n (by omega)]
theorem okP_eq {S S' : DS} {at_ : Int} {k : Nat} (h0 : oAt S' at_ 0 = oAt S at_ 0) (h : oAt S' at_ k = oAt S at_ k) : okP S' at_ k = okP S at_ k := by
  unfold okP; rw [h0, h]
theorem okP_pos {S : DS} {at_ : Int} (h : okP S at_ 0) : 1 ≤ (oAt S at_ 0).n := by
  have h1 := openR_pos (s := readR S (at_ + ((0 : Nat) : Int))) h.1; have h2 : (oAt S at_ 0).p < (oAt S at_ 0).n ∧ 0 ≤ (oAt S at_ 0).p := h1; omega
theorem gather_fun {S : DS} {at_ end_ e q parts er e' q' parts' er' : Int} {b b' : List UInt8} (h : GatherR S at_ end_ e q b parts er) (h' : GatherR S at_ end_ e' q' b' parts' er') : e = e' ∧ q = q' ∧ b = b' ∧ parts = parts' ∧ er = er' := by
  rcases h with ⟨hd, rfl, rfl, rfl, rfl, rfl⟩ | ⟨hd, h⟩
  · rcases h' with ⟨_, rfl, rfl, rfl, rfl, rfl⟩ | ⟨hd', _⟩
    · exact ⟨rfl, rfl, rfl, rfl, rfl⟩
    · rw [hd] at hd'; cases hd'
  · rcases h' with ⟨hd', _⟩ | ⟨_, h'⟩
    · rw [hd] at hd'; cases hd'
    · rcases h with ⟨n, h1, h2, h3, rfl, rfl, rfl, rfl, rfl⟩ | ⟨k, h1, h2, h3, rfl, rfl, rfl, rfl, rfl⟩
      · rcases h' with ⟨n', h1', h2', h3', rfl, rfl, rfl, rfl, rfl⟩ | ⟨k, h1', h2', h3', _⟩
        · obtain rfl : n = n' := by omega
          exact ⟨rfl, rfl, rfl, rfl, rfl⟩
        · exact absurd (h3 k (by omega)) h3'
      · rcases h' with ⟨n', h1', h2', h3', _⟩ | ⟨k', _, _, _, rfl, rfl, rfl, rfl, rfl⟩
        · exact absurd (h3' k (by omega)) h3
        · exact ⟨rfl, rfl, rfl, rfl, rfl⟩
theorem frr_fun {S : DS} {at_ end_ : Int} {r r' : Int × Int × List UInt8 × Int × Int} (h : FrR S at_ end_ r) (h' : FrR S at_ end_ r') : r = r' := by
  unfold FrR at h h'
  split at h
  · rename_i hc
    rw [if_pos hc] at h'; rw [h, h']
  · rename_i hc
    rw [if_neg hc] at h'; obtain ⟨_, _, _, _, _, hg, rfl⟩ := h; obtain ⟨_, _, _, _, _, hg', rfl⟩ := h'; obtain ⟨rfl, rfl, rfl, rfl, rfl⟩ := gather_fun hg hg'
    rfl
theorem least_or (P : Nat → Prop) [DecidablePred P] : ∀ n, (∀ k, k < n → P k) ∨ ∃ k, k < n ∧ (∀ j, j < k → P j) ∧ ¬ P k
  | 0 => .inl fun k h => absurd h (Nat.not_lt_zero _)
  | n + 1 => by
    rcases least_or P n with h | ⟨k, h1, h2⟩
    · by_cases hn : P n
      · exact .inl fun k hk => by
          by_cases h' : k < n
          · exact h k h'
          · obtain rfl : k = n := by omega
            exact hn
      · exact .inr ⟨n, by omega, h, hn⟩
    · exact .inr ⟨k, by omega, h2⟩
theorem frr_ex (S : DS) (at_ end_ : Int) : ∃ r, FrR S at_ end_ r := by
  unfold FrR
  split
  · exact ⟨_, rfl⟩
  · cases hd : S.down
    · by_cases h0 : at_ + ((0 : Nat) : Int) < end_ ∧ okP S at_ 0
      · have hp := okP_pos h0.2
        rcases least_or (fun k => at_ + (k : Int) < end_ ∧ okP S at_ k) (oAt S at_ 0).n.toNat with h | ⟨k, h1, h2, h3⟩
        · exact ⟨_, _, _, _, _, _, .inr ⟨hd, .inl ⟨(oAt S at_ 0).n.toNat, by omega, by omega, h, rfl, rfl, rfl, rfl, rfl⟩⟩, rfl⟩
        · exact ⟨_, _, _, _, _, _, .inr ⟨hd, .inr ⟨k, .inr (by omega), h2, h3, rfl, rfl, rfl, rfl, rfl⟩⟩, rfl⟩
      · exact ⟨_, _, _, _, _, _, .inr ⟨hd, .inr ⟨0, .inl rfl, fun j h => absurd h (Nat.not_lt_zero _), h0, rfl, rfl, rfl, rfl, rfl⟩⟩, rfl⟩
    · exact ⟨_, _, _, _, _, _, .inl ⟨hd, rfl, rfl, rfl, rfl, rfl⟩, rfl⟩
theorem oAt_eq {S S' : DS} {at_ lim : Int} (hr : ∀ p, at_ ≤ p → p < lim → readR S' p = readR S p) {k : Nat} (hk : at_ + (k : Int) < lim) : oAt S' at_ k = oAt S at_ k := by
  unfold oAt; rw [hr _ (by omega) hk]
theorem frr_in {S S' : DS} (hl : S'.secs.length = S.secs.length) (hdn : S'.down = S.down) {at_ end_ : Int} (hr : ∀ p, at_ ≤ p → p < end_ → readR S' p = readR S p) {r : Int × Int × List UInt8 × Int × Int} (h : FrR S at_ end_ r) : FrR S' at_ end_ r := by
  unfold FrR at h ⊢; rw [hl]
  split
  · rename_i hc
    rwa [if_pos hc] at h
  · rename_i hc
    rw [if_neg hc] at h; obtain ⟨ge, gq, gb, parts, ger, hg, rfl⟩ := h; refine ⟨ge, gq, gb, parts, ger, ?_, rfl⟩; have h0 : oAt S' at_ 0 = oAt S at_ 0 := oAt_eq hr (by omega)
    rcases hg with ⟨hd, h⟩ | ⟨hd, h⟩
    · exact .inl ⟨by rw [hdn, hd], h⟩
    · refine .inr ⟨by rw [hdn, hd], ?_⟩
      have hok : ∀ k : Nat, at_ + (k : Int) < end_ → okP S' at_ k = okP S at_ k := fun k hk => okP_eq h0 (oAt_eq hr hk)
      rcases h with ⟨n, h1, h2, h3, h4, h5, h6, h7, h8⟩ | ⟨k, h1, h2, h3, h4⟩
      · exact .inl ⟨n, h1, by rw [h0]; exact h2, fun k hk => ⟨(h3 k hk).1, by rw [hok k (h3 k hk).1]; exact (h3 k hk).2⟩, by rw [h0]; exact h4, by rw [h0]; exact h5, by rw [gB_eq n (fun k hk => oAt_eq hr (h3 k hk).1)]; exact h6, h7, h8⟩
      · exact .inr ⟨k, by rw [h0]; exact h1, fun j hj => ⟨(h2 j hj).1, by rw [hok j (h2 j hj).1]; exact (h2 j hj).2⟩, fun hc => h3 ⟨hc.1, by rw [← hok k hc.1]; exact hc.2⟩, h4⟩
theorem frr_inv {S : DS} {at_ end_ e q next : Int} {b : List UInt8} (h : FrR S at_ end_ (e, q, b, next, 0)) : ∃ n : Nat, 1 ≤ n ∧ next = at_ + (n : Int) ∧ (oAt S at_ 0).n = (n : Int) ∧ (∀ k : Nat, k < n → at_ + (k : Int) < end_ ∧ okP S at_ k) ∧ e = (oAt S at_ 0).e ∧ q = (oAt S at_ 0).q ∧ 0 ≤ at_ ∧ end_ ≤ S.secs.length ∧ S.down = false ∧ readEnd at_ e q (gB S at_ n) (n : Int) 0 = (e, q, b, next, 0) := by
  unfold FrR at h
  split at h
  · simp at h
  · rename_i hr
    obtain ⟨ge, gq, gb, parts, ger, hg, h⟩ := h
    have he0 : ger = 0 := by
      by_cases he : ger = 0
      · exact he
      · unfold readEnd at h; rw [if_pos he] at h
        simp only [Prod.mk.injEq] at h
        exact h.2.2.2.2.symm
    subst he0
    rcases hg with ⟨_, _, _, _, _, h'⟩ | ⟨hd, ⟨n, h1, h2, h3, h4, h5, h6, h7, h8⟩ | ⟨k, _, _, _, _, _, _, _, h8⟩⟩
    · cases h'
    · subst h6 h7; have h' := h; unfold readEnd at h'; rw [if_neg (by decide)] at h'
      split at h'
      · simp at h'
      · simp only [Prod.mk.injEq] at h'
        obtain ⟨rfl, rfl, _, rfl, _⟩ := h'; exact ⟨n, h1, rfl, h2, h3, h4, h5, by omega, by omega, hd, h.symm⟩
    · cases h8
theorem frr_mk {S : DS} {at_ end_ e q next : Int} {b : List UInt8} {n : Nat} (h1 : 1 ≤ n) (h2 : (oAt S at_ 0).n = (n : Int)) (h3 : ∀ k : Nat, k < n → at_ + (k : Int) < end_ ∧ okP S at_ k) (h4 : e = (oAt S at_ 0).e) (h5 : q = (oAt S at_ 0).q) (h6 : 0 ≤ at_) (h7 : end_ ≤ S.secs.length) (h8 : S.down = false)
    (h9 : readEnd at_ e q (gB S at_ n) (n : Int) 0 = (e, q, b, next, 0)) : FrR S at_ end_ (e, q, b, next, 0) := by
  have := (h3 0 (by omega)).1; unfold FrR; rw [if_neg (by omega)]; exact ⟨e, q, _, _, 0, .inr ⟨h8, .inl ⟨n, h1, h2, h3, h4, h5, rfl, rfl, rfl⟩⟩, h9.symm⟩
theorem frr_loc {S S' : DS} (hl : S'.secs.length = S.secs.length) (hdn : S'.down = S.down) {at_ end_ e q next : Int} {b : List UInt8} (h : FrR S at_ end_ (e, q, b, next, 0)) (hr : ∀ p, at_ ≤ p → p < next → readR S' p = readR S p) : FrR S' at_ end_ (e, q, b, next, 0) := by
  obtain ⟨n, h1, rfl, h2, h3, h4, h5, h6, h7, h8, h9⟩ := frr_inv h
  have ho : ∀ k : Nat, k < n → oAt S' at_ k = oAt S at_ k := fun k hk => oAt_eq hr (by omega)
  have h0 := ho 0 (by omega); exact frr_mk h1 (by rw [h0]; exact h2) (fun k hk => ⟨(h3 k hk).1, by rw [okP_eq h0 (ho k hk)]; exact (h3 k hk).2⟩) (by rw [h0]; exact h4) (by rw [h0]; exact h5) h6 (by rw [hl]; exact h7) (by rw [hdn]; exact h8) (by rw [gB_eq n ho]; exact h9)
theorem frr_holds {S : DS} {at_ end_ e q : Int} {b : List UInt8} (h : Holds S at_ e q b) (hd : S.down = false) (h0 : 0 ≤ at_) (he : at_ + (needN b.length : Nat) ≤ end_) (hl : end_ ≤ S.secs.length) : FrR S at_ end_ (e, q, b, at_ + (needN b.length : Nat), 0) := by
  have hn := need_room b.length; have ho := h.o (k := 0) (by omega); refine frr_mk (n := needN b.length) hn.2.2 (by rw [ho]) (fun k hk => ⟨by omega, h.ok hk⟩) (by rw [ho]) (by rw [ho]) h0 hl hd ?_; rw [h.all]; exact readEnd_whole _ _ _ _
def NoRec (S : DS) (en e least p nx : Int) : Prop := ∀ me b next, FrR S p en (me, nx, b, next, 0) → least ≤ me → me ≤ e → False
theorem recs_stop {S : DS} {en e least p nx : Int} (h : NoRec S en e least p nx) : Recs S en e least p nx [] p nx := by
  obtain ⟨⟨me, mq, b, next, er⟩, hr⟩ := frr_ex S p en; refine .stop hr ?_
  by_cases h1 : er = 0
  · by_cases h2 : mq = nx
    · by_cases h3 : least ≤ me
      · by_cases h4 : me ≤ e
        · subst h1 h2; exact (h _ _ _ hr h3 h4).elim
        · exact .inr (.inr (.inr (by omega)))
      · exact .inr (.inr (.inl (by omega)))
    · exact .inr (.inl h2)
  · exact .inl h1
theorem recs_rng {S : DS} {en e least p nx a n : Int} {bs : List (List UInt8)} (h : Recs S en e least p nx bs a n) : p ≤ a ∧ n = nx + (bs.length : Nat) ∧ (p ≤ en → a ≤ en) := by
  induction h with
  | stop => exact ⟨Int.le_refl _, by simp, id⟩
  | step h _ _ _ ih =>
    obtain ⟨m, h1, h2, _, h3, _⟩ := frr_inv h; have := (h3 (m - 1) (by omega)).1; rw [List.length_cons]; omega
theorem recs_fun {S : DS} {en e least p nx a n a' n' : Int} {bs bs' : List (List UInt8)} (h : Recs S en e least p nx bs a n) : Recs S en e least p nx bs' a' n' → bs = bs' ∧ a = a' ∧ n = n' := by
  induction h generalizing bs' with
  | stop h1 h2 =>
    intro h'
    cases h' with
    | stop => exact ⟨rfl, rfl, rfl⟩
    | step h3 h4 h5 h6 =>
      have := frr_fun h1 h3
      simp only [Prod.mk.injEq] at this
      omega
  | step h1 h2 h3 h4 ih =>
    intro h'
    cases h' with
    | stop h5 h6 =>
      have := frr_fun h1 h5
      simp only [Prod.mk.injEq] at this
      omega
    | step h5 h6 h7 h8 =>
      have := frr_fun h1 h5
      simp only [Prod.mk.injEq] at this
      obtain ⟨rfl, _, rfl, rfl, _⟩ := this; obtain ⟨rfl, rfl, rfl⟩ := ih h8; exact ⟨rfl, rfl, rfl⟩
theorem recs_ext {S S' : DS} (hl : S'.secs.length = S.secs.length) (hdn : S'.down = S.down) {en e e' : Int} (he : e ≤ e') {least p nx a n : Int} {bs : List (List UInt8)} (h : Recs S en e least p nx bs a n) : (∀ x, p ≤ x → x < a → readR S' x = readR S x) →
    ∃ least', least ≤ least' ∧ (least' = least ∨ least' ≤ e) ∧ NoRec S en e least' a n ∧ ∀ bs2 a2 n2, Recs S' en e' least' a n bs2 a2 n2 → Recs S' en e' least p nx (bs ++ bs2) a2 n2 := by
  induction h with
  | stop h1 h2 =>
    intro _; refine ⟨_, Int.le_refl _, .inl rfl, fun me b next h3 h4 h5 => ?_, fun bs2 a2 n2 h => h⟩; have := frr_fun h1 h3
    simp only [Prod.mk.injEq] at this
    omega
  | step h1 h2 h3 h4 ih =>
    intro hr; have hle := recs_rng h4; obtain ⟨m, m1, m2, _⟩ := frr_inv h1; obtain ⟨l', i1, i2, i3, i4⟩ := ih (fun x hx hx2 => hr x (by omega) hx2); refine ⟨l', by omega, .inr (by omega), i3, fun bs2 a2 n2 h => .step (frr_loc hl hdn h1 (fun x hx hx2 => hr x hx (by omega))) h2 (by omega) (i4 bs2 a2 n2 h)⟩
theorem getD_setL {α : Type} {s : List α} {i j : Nat} {x d : α} : (s.set i x).getD j d = if i = j ∧ i < s.length then x else s.getD j d := by
  rw [List.getD_eq_getElem?_getD, List.getD_eq_getElem?_getD, List.getElem?_set]
  by_cases h : i = j
  · subst h
    by_cases hl : i < s.length
    · simp [hl]
    · simp [hl]
  · simp [h]
def secAt (X : List (List UInt8)) (p : Int) : List UInt8 := X.getD p.toNat []
theorem readR_nil {S : DS} (h : S.pend = []) (p : Int) : readR S p = secAt S.secs p := by
  unfold readR; rw [h]
  rfl
theorem fold_read : ∀ (ps : List (Int × List UInt8)) (X : List (List UInt8)) (p : Int), 0 ≤ p → p < X.length → (∀ x ∈ ps, 0 ≤ x.1 ∧ x.1 < (X.length : Int)) → secAt (ps.foldl (fun s x => s.set x.1.toNat x.2) X) p = ps.foldl (fun b x => if x.1 = p then x.2 else b) (secAt X p)
  | [], X, p, _, _, _ => rfl
  | x :: r, X, p, h0, h1, hx => by
    have hx0 := hx x (List.mem_cons_self ..); rw [List.foldl_cons, List.foldl_cons, fold_read r (X.set x.1.toNat x.2) p h0 (by rw [List.length_set]; exact h1) (fun y hy => by rw [List.length_set]; exact hx y (List.mem_cons_of_mem _ hy))]
    congr 1
    unfold secAt; rw [getD_setL]
    by_cases h : x.1 = p
    · rw [if_pos h, if_pos ⟨by omega, by omega⟩]
    · rw [if_neg h, if_neg (by omega)]
theorem flush_ok {S : DS} (h : S.down = false) : flushR S = ({ S with secs := S.pend.foldl (fun s p => s.set p.1.toNat p.2) S.secs, pend := [] }, 0) := by
  unfold flushR; rw [if_neg (by rw [h]; decide)]
theorem flush_read {S : DS} (hd : S.down = false) (hp : ∀ x ∈ S.pend, 0 ≤ x.1 ∧ x.1 < (S.secs.length : Int)) {p : Int} (h0 : 0 ≤ p) (h1 : p < S.secs.length) : readR (flushR S).1 p = readR S p := by
  rw [flush_ok hd, readR_nil rfl]; exact fold_read _ _ _ h0 h1 hp
theorem write_cases {S : DS} (hd : S.down = false) {a : Int} {b : List UInt8} (h0 : 0 ≤ a) (h1 : a < S.secs.length) (hb : b.length = 32) :
    (writeR S a b = ({ S with down := true }, 8) ∧ S.left = 0) ∨ ∃ l, writeR S a b = ({ S with pend := S.pend ++ [(a, b)], left := l }, 0) ∧ (S.left = -1 → l = -1) := by
  have hm := may_in hd h0 h1
  by_cases hl : S.left = 0
  · exact .inl ⟨by unfold writeR; rw [if_neg (by rw [hm]; decide), if_neg (by omega), if_pos hl], hl⟩
  · refine .inr ⟨_, write_ok hm hb hl, fun h => ?_⟩; rw [h]
    decide
theorem put_any {S : DS} (hd : S.down = false) {at_ : Int} {f : Nat → List UInt8} {n : Nat} (h0 : 0 ≤ at_) (h1 : at_ + n ≤ S.secs.length) (hf : ∀ k, k < n → (f k).length = 32) : ∀ k, k ≤ n → (∀ j, j < k → putE S at_ f j = 0) → ∃ l, putTo S at_ f k = { S with pend := S.pend ++ putP at_ f k, left := l } ∧ (S.left = -1 → l = -1)
  | 0, _, _ => ⟨S.left, by show S = _; simp [putP], id⟩
  | k + 1, hk, hz => by
    obtain ⟨l, ih, hl⟩ := put_any hd h0 h1 hf k (by omega) (fun j hj => hz j (by omega)); have he := hz k (by omega); unfold putE at he; rw [ih] at he
    rcases write_cases (S := { S with pend := S.pend ++ putP at_ f k, left := l }) hd (a := at_ + (k : Int)) (b := f k) (by omega) (by show at_ + (k : Int) < S.secs.length; omega) (hf k (by omega)) with ⟨h, _⟩ | ⟨l', h, hl'⟩
    · rw [h] at he; cases he
    · refine ⟨l', ?_, fun h => hl' (hl h)⟩
      show (writeR (putTo S at_ f k) (at_ + (k : Int)) (f k)).1 = _
      rw [ih, h]
      simp [putP, List.append_assoc]
theorem put_endsL {S : DS} (hd : S.down = false) {at_ : Int} {f : Nat → List UInt8} {n : Nat} (h0 : 0 ≤ at_) (h1 : at_ + n ≤ S.secs.length) (hf : ∀ k, k < n → (f k).length = 32) {S' : DS} {next er : Int} (hp : PutEnds S at_ f n S' next er) :
    (∃ l, S' = { S with pend := S.pend ++ putP at_ f n, left := l } ∧ (S.left = -1 → l = -1) ∧ next = at_ + n ∧ er = 0) ∨
    ∃ k l, k < n ∧ S' = { S with pend := S.pend ++ putP at_ f k, left := l, down := true } ∧ S.left ≠ -1 ∧ er = 8 := by
  rcases hp with ⟨hz, h2, h3, h4⟩ | ⟨k, hk, hz, h2, h3, h4, h5⟩
  · obtain ⟨l, h, hl⟩ := put_any hd h0 h1 hf n (Nat.le_refl _) hz; exact .inl ⟨l, by rw [h2, h], hl, h3, h4⟩
  · obtain ⟨l, h, hl⟩ := put_any hd h0 h1 hf k (by omega) hz; have e1 : putTo S at_ f (k + 1) = (writeR (putTo S at_ f k) (at_ + (k : Int)) (f k)).1 := rfl; unfold putE at h2 h5
    rcases write_cases (S := { S with pend := S.pend ++ putP at_ f k, left := l }) hd (a := at_ + (k : Int)) (b := f k) (by omega) (by show at_ + (k : Int) < S.secs.length; omega) (hf k (by omega)) with ⟨h', hl'⟩ | ⟨l', h', _⟩
    · rw [h, h'] at h5; rw [h] at e1; rw [h'] at e1; refine .inr ⟨k, l, hk, by rw [h3, e1], fun hs => ?_, h5⟩; have := hl hs; have h'' : l = 0 := hl'; omega
    · rw [h, h'] at h2; exact absurd rfl h2
theorem putP_mem {at_ : Int} {f : Nat → List UInt8} : ∀ {n : Nat} {x : Int × List UInt8}, x ∈ putP at_ f n → ∃ k, k < n ∧ x = (at_ + (k : Int), f k)
  | 0, x, h => by cases h
  | n + 1, x, h => by
    rcases List.mem_append.1 (show x ∈ putP at_ f n ++ [(at_ + (n : Int), f n)] from h) with h | h
    · obtain ⟨k, hk, he⟩ := putP_mem h; exact ⟨k, by omega, he⟩
    · exact ⟨n, by omega, by simpa using h⟩
theorem crash_fold (P : Int → List UInt8 → Prop) (ks : List Int) : ∀ (xs : List ((Int × List UInt8) × Nat)) (X : List (List UInt8)), (∀ x ∈ xs, 0 ≤ x.1.1) → (∀ q, 0 ≤ q → q < (X.length : Int) → P q (secAt X q)) →
    (∀ x ∈ xs, ∀ c m, m = 0 ∨ m = 16 ∨ m = 32 → x.1.1 < (X.length : Int) → P x.1.1 c → P x.1.1 (x.1.2.take m ++ c.drop m)) →
    ∀ q, 0 ≤ q → q < (X.length : Int) → P q (secAt (xs.foldl (fun s x => s.set x.1.1.toNat (tornR ks x s)) X) q)
  | [], X, _, h1, _, q, h0, hl => h1 q h0 hl
  | x :: r, X, hx, h1, h2, q, h0, hl => by
    rw [List.foldl_cons]; refine crash_fold P ks r _ (fun y hy => hx y (List.mem_cons_of_mem _ hy)) (fun q' hq0 hq1 => ?_) (fun y hy c m hm hlt hp => ?_) q h0 (by rw [List.length_set]; exact hl)
    · rw [List.length_set] at hq1; unfold secAt; rw [getD_setL]; have hx0 := hx x (List.mem_cons_self ..)
      split
      · rename_i hc
        obtain rfl : x.1.1 = q' := by omega
        have hk : keepN ks x.2 = 0 ∨ keepN ks x.2 = 16 ∨ keepN ks x.2 = 32 := by
          unfold keepN keptR
          (repeat' split) <;> simp
        exact h2 x (List.mem_cons_self ..) _ _ hk hq1 (h1 _ hq0 hq1)
      · exact h1 q' hq0 hq1
    · rw [List.length_set] at hlt; exact h2 y (List.mem_cons_of_mem _ hy) c m hm hlt hp
theorem zip_mem {α : Type} {l : List α} {x : α × Nat} (h : x ∈ l.zipIdx) : x.1 ∈ l := by
  obtain ⟨i, hi⟩ := List.getElem?_of_mem h; rw [List.getElem?_zipIdx] at hi
  cases hp : l[i]? with
  | none => rw [hp] at hi; cases hi
  | some q => rw [hp] at hi; simp at hi; rw [← hi]; exact List.mem_of_getElem? hp
theorem crash_P {S : DS} (P : Int → List UInt8 → Prop) (ks : List Int) (hx : ∀ x ∈ S.pend, 0 ≤ x.1) (h1 : ∀ q, 0 ≤ q → q < (S.secs.length : Int) → P q (secAt S.secs q))
    (h2 : ∀ x ∈ S.pend, ∀ c m, m = 0 ∨ m = 16 ∨ m = 32 → x.1 < (S.secs.length : Int) → P x.1 c → P x.1 (x.2.take m ++ c.drop m)) {q : Int} (h0 : 0 ≤ q) (hl : q < (S.secs.length : Int)) : P q (secAt (crashR S ks).secs q) :=
  crash_fold P ks _ _ (fun x hm => hx x.1 (zip_mem hm)) h1 (fun x hm c m hc hlt hp => h2 x.1 (zip_mem hm) c m hc hlt hp) q h0 hl
theorem crash_ok {S : DS} (h : DOk S) (ks : List Int) : (crashR S ks).secs.length = S.secs.length ∧ ∀ x ∈ (crashR S ks).secs, x.length = 32 := by
  have := crashTo_ok h ks S.pend.zipIdx.length; unfold crashTo at this; rw [List.take_length] at this; exact this
theorem crash_nil {S : DS} (h : S.pend = []) (ks : List Int) : (crashR S ks).secs = S.secs := by
  unfold crashR; rw [h]
  rfl
theorem store_cases {S : DS} (hd : S.down = false) (hp : S.pend = []) (hl : S.secs.length = 514) {s : Slot} (hm : mayM s.e s.n = true) (hn : 0 ≤ s.n) :
    (storeR S s = ({ S with down := true }, 8) ∧ S.left = 0) ∨ ∃ l, storeR S s = ({ S with secs := S.secs.set (s.n % 2).toNat (slotX s), pend := [], left := l }, 0) ∧ (S.left = -1 → l = -1) := by
  have ht : s.n.tmod 2 = s.n % 2 := Int.tmod_eq_emod_of_nonneg hn; unfold storeR; rw [if_neg (by rw [hm]; decide), ht]
  rcases write_cases hd (a := s.n % 2) (b := slotX s) (by omega) (by omega) (slotX_len s) with ⟨h, hl0⟩ | ⟨l, h, hl1⟩
  · rw [h]; exact .inl ⟨if_pos (by show (8 : Int) ≠ 0; decide), hl0⟩
  · rw [h]; refine .inr ⟨l, ?_, hl1⟩; rw [if_neg (by simp)]; dsimp only; rw [flush_ok (S := { S with pend := S.pend ++ [(s.n % 2, slotX s)], left := l }) hd]; dsimp only; rw [hp]
    rfl
def RowsAt (S : DS) (e : Int) : Int → Int → List (List UInt8) → Prop
  | _, _, [] => True
  | at_, q, b :: r => Holds S at_ e q b ∧ RowsAt S e (at_ + (needN b.length : Nat)) (q + 1) r
theorem needS_cons (b : List UInt8) (r : List (List UInt8)) : needS (b :: r) = needN b.length + needS r := by simp [needS]
theorem RowsAt.marks {S : DS} {e : Int} : ∀ {bss : List (List UInt8)} {at_ q : Int}, RowsAt S e at_ q bss → ∀ p, at_ ≤ p → p < at_ + (needS bss : Nat) → ∃ q', q ≤ q' ∧ q' < q + (bss.length : Nat) ∧ epochOf (readR S p) = e ∧ seqOf (readR S p) = q' ∧ tlE (readR S p) = e ∧ tlQ (readR S p) = q'
  | [], at_, q, _, p, h1, h2 => by simp [needS] at h2; omega
  | b :: r, at_, q, h, p, h1, h2 => by
    rw [needS_cons] at h2
    by_cases hp : p < at_ + (needN b.length : Nat)
    · obtain ⟨k, rfl⟩ : ∃ k : Nat, p = at_ + (k : Int) := ⟨(p - at_).toNat, by omega⟩
      have hk : k < needN b.length := by omega
      have hs := seal_part h.1.1 h.1.2.1 hk; rw [h.1.2.2 k hk]; have h3 := seal_hd hs; have h4 := seal_tl hs; exact ⟨q, by omega, by rw [List.length_cons]; omega, h3.1, h3.2, h4.1, h4.2⟩
    · obtain ⟨q', h3, h4, h5⟩ := RowsAt.marks h.2 p (by omega) (by omega); exact ⟨q', by omega, by rw [List.length_cons]; omega, h5⟩
theorem wr_ends {e : Int} {S S' : DS} {at_ q a er : Int} {bss : List (List UInt8)} (h : WrR e S at_ q bss S' a er) : S.down = false → (∀ x ∈ S.pend, 0 ≤ x.1 ∧ x.1 < (S.secs.length : Int)) → (∀ b ∈ bss, needN b.length ≤ 255) → 0 ≤ at_ → at_ + (needS bss : Nat) ≤ S.secs.length → 0 ≤ e → e < 65536 → 0 ≤ q → q + (bss.length : Nat) ≤ 16777216 →
    (er = 0 ∧ a = at_ + (needS bss : Nat) ∧ S'.pend = [] ∧ S'.down = false ∧ (S.left = -1 → S'.left = -1) ∧ S'.secs.length = S.secs.length ∧ (∀ p : Int, 0 ≤ p → p < (S.secs.length : Int) → p < at_ ∨ a ≤ p → readR S' p = readR S p) ∧ RowsAt S' e at_ q bss) ∨
    (er = 8 ∧ S'.down = true ∧ S.left ≠ -1 ∧ S'.secs = S.secs ∧ ∃ ps, S'.pend = S.pend ++ ps ∧ ∀ x ∈ ps, at_ ≤ x.1 ∧ x.1 < at_ + (needS bss : Nat) ∧ x.2.length = 32 ∧ epochOf x.2 = e ∧ tlE x.2 = e) := by
  induction h with
  | nil =>
    rename_i S at_ q
    intro hd hp _ h0 hlen _ _ _ _; have hf := flush_ok hd; refine .inl ⟨by rw [hf], by simp [needS], by rw [hf], by rw [hf]; exact hd, by rw [hf]; exact id, by rw [hf]; exact flush_len _ _, fun p hp0 hp1 _ => flush_read hd hp hp0 hp1, trivial⟩
  | bad hfw hne =>
    rename_i S S' at_ q next er b bss
    intro hd hp hb h0 hlen he0 he1 hq0 hq1; rw [List.length_cons] at hq1; rw [needS_cons] at hlen ⊢
    have hm : mayM e q = true := by unfold mayM; simp only [Bool.and_eq_true, decide_eq_true_eq]; omega
    have hn := hb b (List.mem_cons_self ..); have hfw := hfw.out; rw [if_neg (by rw [hm]; simp; omega), if_neg (by omega)] at hfw
    rcases put_endsL hd h0 (by omega) (fun k hk => secB_len hm hn hk) hfw with ⟨_, _, _, _, h⟩ | ⟨k, l, hk, rfl, hl, rfl⟩
    · exact absurd h hne
    · refine .inr ⟨rfl, rfl, hl, rfl, _, rfl, fun x hx => ?_⟩; obtain ⟨j, hj, rfl⟩ := putP_mem hx; have hs := seal_part hm hn (k := j) (by omega); exact ⟨by dsimp only; omega, by dsimp only; omega, secB_len hm hn (by omega), (seal_hd hs).1, (seal_tl hs).1⟩
  | step hfw hwr ih =>
    rename_i S S1 S' at_ q next a er b bss
    intro hd hp hb h0 hlen he0 he1 hq0 hq1; rw [List.length_cons] at hq1; rw [needS_cons] at hlen ⊢
    have hm : mayM e q = true := by unfold mayM; simp only [Bool.and_eq_true, decide_eq_true_eq]; omega
    have hn := hb b (List.mem_cons_self ..); have hfw := hfw.out; rw [if_neg (by rw [hm]; simp; omega), if_neg (by omega)] at hfw
    rcases put_endsL hd h0 (by omega) (fun k hk => secB_len hm hn hk) hfw with ⟨l, rfl, hl, rfl, _⟩ | ⟨k, l, hk, rfl, hl, h⟩
    · have hp1 : ∀ x ∈ S.pend ++ putP at_ (secB e q b) (needN b.length), 0 ≤ x.1 ∧ x.1 < (S.secs.length : Int) := fun x hx => by
        rcases List.mem_append.1 hx with hx | hx
        · exact hp x hx
        · obtain ⟨j, hj, rfl⟩ := putP_mem hx; dsimp only; omega
      have hin : ∀ k : Nat, k < needN b.length → readR { S with pend := S.pend ++ putP at_ (secB e q b) (needN b.length), left := l } (at_ + (k : Int)) = secB e q b k := fun k hk => read_in (S := { S with left := l }) hk
      have hout : ∀ p : Int, p < at_ ∨ at_ + (needN b.length : Nat) ≤ p → readR { S with pend := S.pend ++ putP at_ (secB e q b) (needN b.length), left := l } p = readR S p := fun p hp => read_out (S := { S with left := l }) hp
      rcases ih hd hp1 (fun c hc => hb c (List.mem_cons_of_mem _ hc)) (by omega) (by show at_ + (needN b.length : Nat) + (needS bss : Nat) ≤ (S.secs.length : Int); omega) he0 he1 (by omega) (by omega) with ⟨i1, i2, i3, i4, i5, i6, i7, i8⟩ | ⟨i1, i2, i3, i4, ps, i5, i6⟩
      · refine .inl ⟨i1, by omega, i3, i4, fun h => i5 (hl h), i6, fun p hp0 hp1 hp => ?_, ?_, i8⟩
        · rw [i7 p hp0 hp1 (by omega), hout p (by omega)]
        · refine ⟨hm, hn, fun k hk => ?_⟩; rw [i7 _ (by omega) (by show at_ + (k : Int) < (S.secs.length : Int); omega) (by omega), hin k hk]
      · refine .inr ⟨i1, i2, fun h => i3 (hl h), i4, putP at_ (secB e q b) (needN b.length) ++ ps, by rw [i5]; exact List.append_assoc .., fun x hx => ?_⟩
        rcases List.mem_append.1 hx with hx | hx
        · obtain ⟨j, hj, rfl⟩ := putP_mem hx; have hs := seal_part hm hn hj; exact ⟨by dsimp only; omega, by dsimp only; omega, secB_len hm hn hj, (seal_hd hs).1, (seal_tl hs).1⟩
        · have := i6 x hx; exact ⟨by omega, by omega, this.2.2⟩
    · cases h
def flat (X : List (List UInt8)) : DS := ⟨X, [], -1, false⟩
theorem read_flat {S : DS} (h : S.pend = []) (p : Int) : readR S p = readR (flat S.secs) p := by rw [readR_nil h, readR_nil rfl]; rfl
structure DI (X : List (List UInt8)) (s : Slot) (bs : List (List UInt8)) (a nx : Int) : Prop where
  len : X.length = 514
  all : ∀ x ∈ X, x.length = 32
  so : SlotOk s
  n1 : 1 ≤ s.n
  be : s.b ≤ s.e
  sl : secAt X (s.n % 2) = slotX s
  ot : tlQ (secAt X ((s.n + 1) % 2)) < s.n
  mx : ∀ p : Int, 2 ≤ p → p < 514 → epochOf (secAt X p) ≤ s.e ∧ tlE (secAt X p) ≤ s.e
  rc : Recs (flat X) (beginR s.h + 256) s.e s.b (beginR s.h) s.f bs a nx
structure LI (S : DS) (G : LG) (bs : List (List UInt8)) : Prop where
  on : S.down = false
  pn : S.pend = []
  ok : G.bad = 0
  di : DI S.secs G.s bs G.at_ G.nx
  st : ∀ p : Int, 2 ≤ p → p < 514 → (epochOf (secAt S.secs p) = G.s.e → seqOf (secAt S.secs p) < G.nx) ∧ (tlE (secAt S.secs p) = G.s.e → tlQ (secAt S.secs p) < G.nx)
theorem SlotOk.may {s : Slot} (h : SlotOk s) : mayM s.e s.n = true := by
  unfold SlotOk at h; unfold mayM
  simp only [Bool.and_eq_true, decide_eq_true_eq]
  omega
theorem DI.rng {X : List (List UInt8)} {s : Slot} {bs : List (List UInt8)} {a nx : Int} (h : DI X s bs a nx) : beginR s.h ≤ a ∧ a ≤ beginR s.h + 256 ∧ nx = s.f + (bs.length : Nat) ∧ 0 ≤ s.f ∧ beginR s.h = 2 + s.h * 256 ∧ 0 ≤ s.h ∧ s.h ≤ 1 := by
  have h1 := recs_rng h.rc; have h2 := h.so; unfold SlotOk at h2; exact ⟨h1.1, h1.2.2 (by omega), h1.2.1, h2.2.2.2.2.2.2.1, rfl, h2.2.2.2.2.1, h2.2.2.2.2.2.1⟩
theorem slot_tl {s : Slot} (h : SlotOk s) : tlQ (slotX s) = s.n := (seal_tl (show sealM s.e s.n 0 1 (slotB s) = true by rw [slot_seal]; exact h.may)).2
theorem slotAt_tl {x : List UInt8} {y : Slot} (h : slotAt x = some y) : tlQ x = y.n := by
  unfold slotAt at h
  split at h
  · rename_i hs
    simp only [isSlot, Bool.and_eq_true, decide_eq_true_eq] at hs
    obtain rfl : slotOf (openR x) = y := Option.some.inj h; exact (open_marks hs.1).2.2.2
  · cases h
theorem DI.newest {S : DS} {s : Slot} {bs : List (List UInt8)} {a nx : Int} (h : DI S.secs s bs a nx) (hd : S.down = false) (hp : S.pend = []) : newestR S = (s, 0) := by
  have hso := h.so
  have h1 : slotAt (readR S (s.n % 2)) = some s := by
    rw [readR_nil hp, h.sl]; unfold SlotOk at hso; exact slotAt_X h.so.may (by omega) (by omega) (by omega)
  have h2 : ∀ y, slotAt (readR S ((s.n + 1) % 2)) = some y → y.n < s.n := fun y hy => by
    have := slotAt_tl hy; have h3 := h.ot; rw [readR_nil hp] at this; omega
  have hl := h.len; unfold newestR; rw [if_neg (by rw [hd]; decide), if_neg (by omega)]
  have : better (slotAt (readR S 0)) (slotAt (readR S 1)) = some s := by
    by_cases hn : s.n % 2 = 0
    · rw [hn] at h1; rw [show (s.n + 1) % 2 = 1 by omega] at h2; rw [h1]
      cases hy : slotAt (readR S 1) with
      | none => rfl
      | some y =>
        have := h2 y hy; exact if_neg (by omega)
    · rw [show s.n % 2 = 1 by omega] at h1; rw [show (s.n + 1) % 2 = 0 by omega] at h2; rw [h1]
      cases hy : slotAt (readR S 0) with
      | none => rfl
      | some y =>
        have := h2 y hy; exact if_pos (by omega)
  rw [this]
theorem recs_in {S S' : DS} (hl : S'.secs.length = S.secs.length) (hdn : S'.down = S.down) {en e least p nx a n : Int} {bs : List (List UInt8)} (h : Recs S en e least p nx bs a n) : (∀ x, p ≤ x → x < en → readR S' x = readR S x) → Recs S' en e least p nx bs a n := by
  induction h with
  | stop h1 h2 => exact fun hr => .stop (frr_in hl hdn hr h1) h2
  | step h1 h2 h3 h4 ih =>
    intro hr; obtain ⟨m, m1, m2, _⟩ := frr_inv h1; exact .step (frr_in hl hdn hr h1) h2 h3 (ih fun x hx hx2 => hr x (by omega) hx2)
theorem set_same {X : List (List UInt8)} {p : Int} {v : List UInt8} (h : secAt X p = v) (h0 : 0 ≤ p) (h1 : p < X.length) : X.set p.toNat v = X := by
  have hp : p.toNat < X.length := by omega
  subst h; unfold secAt; rw [List.getD_eq_getElem?_getD, List.getElem?_eq_getElem hp, Option.getD_some]; exact List.set_getElem_self hp
theorem sec_set {X : List (List UInt8)} {i q : Int} {v : List UInt8} (hi : 0 ≤ i) (hl : i < X.length) (hq : 0 ≤ q) : secAt (X.set i.toNat v) q = if i = q then v else secAt X q := by
  unfold secAt; rw [getD_setL]
  by_cases h : i = q
  · rw [if_pos h, if_pos ⟨by omega, by omega⟩]
  · rw [if_neg h, if_neg (by omega)]
theorem secAt_len {X : List (List UInt8)} (h : ∀ x ∈ X, x.length = 32) {p : Int} (h0 : 0 ≤ p) (h1 : p < X.length) : (secAt X p).length = 32 := by
  have hp : p.toNat < X.length := by omega
  unfold secAt; rw [List.getD_eq_getElem?_getD, List.getElem?_eq_getElem hp, Option.getD_some]; exact h _ (List.getElem_mem hp)
theorem frr_mark {S : DS} {at_ en e q next : Int} {b : List UInt8} (h : FrR S at_ en (e, q, b, next, 0)) : at_ < en ∧ epochOf (readR S at_) = e ∧ seqOf (readR S at_) = q := by
  obtain ⟨n, h1, _, _, h3, h4, h5, _⟩ := frr_inv h; have h0 := h3 0 (by omega); have hm := open_marks (x := readR S (at_ + ((0 : Nat) : Int))) h0.2.1
  have e0 : at_ + ((0 : Nat) : Int) = at_ := by omega
  rw [show openR (readR S (at_ + ((0 : Nat) : Int))) = oAt S at_ 0 from rfl, ← h4, ← h5, e0] at hm; exact ⟨by omega, hm.1, hm.2.1⟩
theorem open_di {S S' : DS} {s : Slot} {bs bs' : List (List UInt8)} {a nx er : Int} {G : LG} (hd : S.down = false) (hp : S.pend = []) (h : DI S.secs s bs a nx) (hb : s.n < 16777215 ∧ s.e < 65535) (ho : OpnR S S' er G bs') :
    (er = 0 ∧ bs' = bs ∧ G = ⟨s.up, a, nx, 0⟩ ∧ LI S' G bs ∧ (S.left = -1 → S'.left = -1)) ∨ (er = 8 ∧ S.left ≠ -1 ∧ S'.down = true ∧ S'.pend = [] ∧ S'.secs = S.secs) := by
  have hnw := h.newest hd hp; have hl := h.len; have hso := h.so; have hrg := h.rng
  have hso2 : SlotOk s.up := by
    unfold SlotOk at hso ⊢; unfold Slot.up; dsimp only; omega
  have hn0 : 0 ≤ s.n := by have := h.n1; omega
  have hsame : S.secs.set (s.n % 2).toNat (slotX s) = S.secs := set_same h.sl (by omega) (by omega); have h1 := store_cases hd hp hl hso.may hn0; rw [hsame] at h1
  have h2 : ∀ l, (S.left = -1 → l = -1) → (storeR { S with secs := S.secs, pend := [], left := l } s.up = ({ S with secs := S.secs, pend := [], left := l, down := true }, 8) ∧ l = 0) ∨ ∃ l', storeR { S with secs := S.secs, pend := [], left := l } s.up = ({ S with secs := S.secs.set ((s.n + 1) % 2).toNat (slotX s.up), pend := [], left := l' }, 0) ∧ (l = -1 → l' = -1) :=
    fun l _ => store_cases (S := { S with secs := S.secs, pend := [], left := l }) hd rfl hl hso2.may (by show 0 ≤ s.n + 1; omega)
  cases ho with
  | len h' => exact absurd (by omega) h'
  | none _ h' => rw [hnw] at h'; exact absurd rfl h'
  | st1 _ _ h' =>
    rw [hnw] at h' ⊢; dsimp only at h' ⊢
    rcases h1 with ⟨h1, hl0⟩ | ⟨l, h1, _⟩
    · rw [h1]; exact .inr ⟨rfl, by omega, rfl, hp, rfl⟩
    · rw [h1] at h'; exact absurd rfl h'
  | full _ _ _ h' => rw [hnw] at h'; dsimp only at h'; omega
  | st2 _ _ h'' _ h' =>
    rw [hnw] at h' h'' ⊢; dsimp only at h' h'' ⊢
    rcases h1 with ⟨h1, hl0⟩ | ⟨l, h1, hl1⟩
    · rw [h1] at h''; cases h''
    · rw [h1] at h' ⊢; dsimp only at h' ⊢
      rcases h2 l hl1 with ⟨h2, hl2⟩ | ⟨l', h2, _⟩
      · rw [h2]; exact .inr ⟨rfl, fun hc => by have := hl1 hc; omega, rfl, rfl, rfl⟩
      · rw [h2] at h'; exact absurd rfl h'
  | ok _ _ h'' _ h' hrec =>
    rw [hnw] at h' h'' hrec ⊢; dsimp only at h' h'' hrec ⊢
    rcases h1 with ⟨h1, hl0⟩ | ⟨l, h1, hl1⟩
    · rw [h1] at h''; cases h''
    · rw [h1] at h' ⊢; dsimp only at h' ⊢
      rcases h2 l hl1 with ⟨h2, hl2⟩ | ⟨l', h2, hl2⟩
      · rw [h2] at h'; cases h'
      · rw [h2]; dsimp only; have hrec2 : Recs S (beginR s.h + 256) s.e s.b (beginR s.h) s.f bs a nx := recs_in (S := flat S.secs) (S' := S) rfl hd h.rc (fun x _ _ => read_flat hp x); obtain ⟨rfl, rfl, rfl⟩ := recs_fun hrec2 hrec
        have hsec : ∀ q : Int, 0 ≤ q → secAt (S.secs.set ((s.n + 1) % 2).toNat (slotX s.up)) q = if (s.n + 1) % 2 = q then slotX s.up else secAt S.secs q := fun q hq => sec_set (by omega) (by omega) hq
        refine .inl ⟨rfl, rfl, rfl, ⟨hd, rfl, rfl, ⟨?_, ?_, hso2, ?_, ?_, ?_, ?_, ?_, ?_⟩, ?_⟩, fun hc => hl2 (hl1 hc)⟩
        · dsimp only; rw [List.length_set]; exact hl
        · intro x hx
          rcases List.mem_or_eq_of_mem_set hx with hx | rfl
          · exact h.all x hx
          · exact slotX_len _
        · show 1 ≤ s.n + 1
          omega
        · have := h.be
          show s.b ≤ s.e + 1
          omega
        · show secAt (S.secs.set ((s.n + 1) % 2).toNat (slotX s.up)) ((s.n + 1) % 2) = _
          rw [hsec _ (by omega), if_pos rfl]
        · show tlQ (secAt (S.secs.set ((s.n + 1) % 2).toNat (slotX s.up)) ((s.n + 1 + 1) % 2)) < s.n + 1
          rw [hsec _ (by omega), if_neg (by omega), show (s.n + 1 + 1) % 2 = s.n % 2 by omega, h.sl, slot_tl hso]; omega
        · intro p hp2 hp3; have := h.mx p hp2 hp3
          show epochOf (secAt (S.secs.set ((s.n + 1) % 2).toNat (slotX s.up)) p) ≤ s.e + 1 ∧ tlE (secAt (S.secs.set ((s.n + 1) % 2).toNat (slotX s.up)) p) ≤ s.e + 1
          rw [hsec p (by omega), if_neg (by omega)]; omega
        · have hread : ∀ x : Int, 2 ≤ x → readR (flat (S.secs.set ((s.n + 1) % 2).toNat (slotX s.up))) x = readR (flat S.secs) x := fun x hx => by
            rw [readR_nil rfl, readR_nil rfl]
            show secAt (S.secs.set ((s.n + 1) % 2).toNat (slotX s.up)) x = secAt S.secs x
            rw [hsec x (by omega), if_neg (by omega)]
          have hlen : (flat (S.secs.set ((s.n + 1) % 2).toNat (slotX s.up))).secs.length = (flat S.secs).secs.length := List.length_set; obtain ⟨least', e1, e2, e3, e4⟩ := recs_ext (S' := flat (S.secs.set ((s.n + 1) % 2).toNat (slotX s.up))) hlen rfl (e' := s.e + 1) (by omega) h.rc (fun x hx _ => hread x (by omega))
          have e5 := e4 [] _ _ (recs_stop fun me b next hf hm1 hm2 => by
            have hf2 := frr_in (S' := flat S.secs) hlen.symm rfl (fun p hp1 _ => (hread p (by omega)).symm) hf; obtain ⟨f1, f2, _⟩ := frr_mark hf2; have f3 := h.mx a (by omega) (by omega); rw [readR_nil rfl] at f2
            exact e3 me b next hf2 hm1 (by rw [← f2]; exact f3.1))
          rw [List.append_nil] at e5; exact e5
        · intro p hp2 hp3; have := h.mx p hp2 hp3
          show (epochOf (secAt (S.secs.set ((s.n + 1) % 2).toNat (slotX s.up)) p) = s.e + 1 → _) ∧ (tlE (secAt (S.secs.set ((s.n + 1) % 2).toNat (slotX s.up)) p) = s.e + 1 → _)
          rw [hsec p (by omega), if_neg (by omega)]; exact ⟨fun h => by omega, fun h => by omega⟩
theorem may_cases {G : LG} {room : Int} {bss : List (List UInt8)} (hb : G.bad = 0) (hn : ∀ b ∈ bss, needN b.length ≤ 255) (hx : G.nx + (bss.length : Nat) ≤ 16777216) : (mayL G room bss = 5 ∧ room < (needS bss : Nat)) ∨ (mayL G room bss = 0 ∧ (needS bss : Nat) ≤ room) := by
  unfold mayL; rw [if_neg (by rw [hb]; decide)]
  by_cases h : room < (needS bss : Nat)
  · rw [if_pos (.inl h)]; exact .inl ⟨rfl, h⟩
  · rw [if_neg (by omega), if_neg]
    · exact .inr ⟨rfl, by omega⟩
    · rw [List.any_eq_true]; rintro ⟨b, h1, h2⟩; have := hn b h1
      simp only [decide_eq_true_eq] at h2
      omega
theorem needS_one (b : List UInt8) : needS [b] = needN b.length := by simp [needS]
theorem LI.dn {S : DS} {G : LG} {bs : List (List UInt8)} (h : LI S G bs) : S.down = false ∧ S.pend = [] ∧ G.bad = 0 ∧ S.secs.length = 514 ∧ SlotOk G.s := ⟨h.on, h.pn, h.ok, h.di.len, h.di.so⟩
theorem torn_pend {at_ : Int} {f : Nat → List UInt8} {k : Nat} {old : Int → List UInt8} (hf : ∀ j, j < k → (f j).length = 32) (x : Int × List UInt8) (hx : x ∈ putP at_ f k) (c : List UInt8) (m : Nat) (hm : m = 0 ∨ m = 16 ∨ m = 32)
    (hc : c = old x.1 ∨ ∃ j : Nat, j < k ∧ x.1 = at_ + (j : Int) ∧ (c = f j ∨ c = mixB (f j) (old x.1))) (hl : (old x.1).length = 32) : x.2.take m ++ c.drop m = old x.1 ∨ ∃ j : Nat, j < k ∧ x.1 = at_ + (j : Int) ∧ (x.2.take m ++ c.drop m = f j ∨ x.2.take m ++ c.drop m = mixB (f j) (old x.1)) := by
  obtain ⟨j, hj, rfl⟩ := putP_mem hx; dsimp only at hc hl ⊢
  have hcl : c.length = 32 := by
    rcases hc with rfl | ⟨i, hi, he, rfl | rfl⟩
    · exact hl
    · exact hf i hi
    · unfold mixB; rw [List.length_append, List.length_take, List.length_drop, hf i hi, hl]
      rfl
  rcases hm with rfl | rfl | rfl
  · simpa using hc
  · refine .inr ⟨j, hj, rfl, ?_⟩
    rcases hc with rfl | ⟨i, hi, he, rfl | rfl⟩
    · exact .inr rfl
    · obtain rfl : i = j := by omega
      exact .inl (List.take_append_drop 16 _)
    · obtain rfl : i = j := by omega
      refine .inr ?_; unfold mixB; rw [List.drop_append, List.drop_eq_nil_of_le (by rw [List.length_take]; omega), List.length_take, hf i hi]
      simp
  · refine .inr ⟨j, hj, rfl, .inl ?_⟩; rw [List.take_of_length_le (by rw [hf j hj]; exact Nat.le_refl _), List.drop_eq_nil_of_le (by omega), List.append_nil]
theorem append_li {S S' : DS} {G G' : LG} {bs : List (List UInt8)} {b : List UInt8} {er : Int} (h : LI S G bs) (hb : needN b.length ≤ 255) (hx : G.nx < 16777215) (hok : DOk S') (ha : ApR S G b S' G' er) :
    (er = 5 ∧ S' = S ∧ G' = G ∧ roomR G < (needN b.length : Nat)) ∨
    (er = 0 ∧ (needN b.length : Nat) ≤ roomR G ∧ LI S' G' (bs ++ [b]) ∧ G' = G.to (G.at_ + (needN b.length : Nat)) (G.nx + 1) ∧ (S.left = -1 → S'.left = -1)) ∨
    (er = 8 ∧ S.left ≠ -1 ∧ S'.down = true ∧ G' = G.ill 8 ∧ ∀ ks, DI (crashR S' ks).secs G.s bs G.at_ G.nx) := by
  obtain ⟨hd, hp, hbad, hl, hso⟩ := h.dn; have hrg := h.di.rng; have hso' := hso; unfold SlotOk at hso'; have hroom : roomR G = beginR G.s.h + 256 - G.at_ := rfl; have hmc := may_cases (G := G) (room := roomR G) (bss := [b]) hbad (fun c hc => by rw [List.mem_singleton] at hc; subst hc; exact hb) (by simp; omega); rw [needS_one] at hmc
  have hm : mayM G.s.e G.nx = true := by unfold mayM; simp only [Bool.and_eq_true, decide_eq_true_eq]; omega
  have hneed := need_room b.length
  cases ha with
  | may h' =>
    rcases hmc with ⟨h1, h2⟩ | ⟨h1, _⟩
    · exact .inl ⟨h1, rfl, rfl, h2⟩
    · exact absurd h1 h'
  | bad h' hw hne =>
    rename_i wa
    rcases hmc with ⟨h1, _⟩ | ⟨_, h2⟩
    · rw [h'] at h1; cases h1
    cases hw with
    | bad hfw _ =>
      have hfw := hfw.out; rw [if_neg (by rw [hm]; simp; omega), if_neg (by omega)] at hfw
      rcases put_endsL hd (by omega) (by omega) (fun k hk => secB_len hm hb hk) hfw with ⟨_, _, _, _, h⟩ | ⟨k, l, hk, rfl, hl0, rfl⟩
      · exact absurd h hne
      refine .inr (.inr ⟨rfl, hl0, rfl, rfl, fun ks => ?_⟩); rw [hp, List.nil_append] at hok ⊢; obtain ⟨c1, c2⟩ := crash_ok hok ks
      have hf : ∀ j, j < k → (secB G.s.e G.nx b j).length = 32 := fun j hj => secB_len hm hb (by omega)
      have hP := fun (q : Int) (h0 : 0 ≤ q) (h1 : q < 514) => crash_P (S := { S with pend := putP G.at_ (secB G.s.e G.nx b) k, left := l, down := true }) (fun q c => c = secAt S.secs q ∨ ∃ j : Nat, j < k ∧ q = G.at_ + (j : Int) ∧ (c = secB G.s.e G.nx b j ∨ c = mixB (secB G.s.e G.nx b j) (secAt S.secs q))) ks
        (fun x hx => by obtain ⟨j, _, rfl⟩ := putP_mem hx; dsimp only; omega) (fun q _ _ => .inl rfl)
        (fun x hx c m hm' hlt hc => torn_pend (old := secAt S.secs) hf x hx c m hm' hc (secAt_len h.di.all (by obtain ⟨j, _, rfl⟩ := putP_mem hx; dsimp only; omega) hlt)) h0 (by show q < (S.secs.length : Int); omega)
      generalize hY : (crashR { S with pend := putP G.at_ (secB G.s.e G.nx b) k, left := l, down := true } ks).secs = Y at c1 c2 hP ⊢
      replace c1 : Y.length = 514 := by rw [c1]; exact hl
      have hold : ∀ q : Int, 0 ≤ q → q < 514 → q < G.at_ → secAt Y q = secAt S.secs q := fun q h0 h1 h2 => by
        rcases hP q h0 h1 with h | ⟨j, _, h, _⟩
        · exact h
        · omega
      refine ⟨c1, c2, hso, h.di.n1, h.di.be, by rw [hold _ (by omega) (by omega) (by omega)]; exact h.di.sl, by rw [hold _ (by omega) (by omega) (by omega)]; exact h.di.ot, fun p hp2 hp3 => ?_, ?_⟩
      · have h0 := h.di.mx p hp2 hp3
        rcases hP p (by omega) hp3 with h | ⟨j, hj, rfl, h | h⟩
        · rw [h]; exact h0
        · have hs := seal_part hm hb (k := j) (by omega); have h3 : epochOf (secB G.s.e G.nx b j) = G.s.e := (seal_hd hs).1; have h4 : tlE (secB G.s.e G.nx b j) = G.s.e := (seal_tl hs).1; rw [h, h3, h4]; exact ⟨Int.le_refl _, Int.le_refl _⟩
        · have hs := seal_part hm hb (k := j) (by omega); have h3 : epochOf (secB G.s.e G.nx b j) = G.s.e := (seal_hd hs).1; rw [h, (mix_hd (hf j hj)).1, (mix_tl (hf j hj)).1, h3]; exact ⟨Int.le_refl _, h0.2⟩
      · have hlen : (flat Y).secs.length = (flat S.secs).secs.length := by show Y.length = S.secs.length; omega
        obtain ⟨least', e1, e2, e3, e4⟩ := recs_ext (S' := flat Y) hlen rfl (Int.le_refl _) h.di.rc (fun x hx hx2 => by
          rw [readR_nil rfl, readR_nil rfl]
          exact hold x (by omega) (by omega) hx2)
        have e5 := e4 [] _ _ (recs_stop fun me b' next hfr hm1 hm2 => by
          obtain ⟨n', n1, n2, n3, n4, n5, n6, n7, n8, n9, n10⟩ := frr_inv hfr
          have hop : ∀ i : Nat, i < n' → G.at_ + (i : Int) < 514 ∧ epochOf (secAt Y (G.at_ + (i : Int))) = me ∧ seqOf (secAt Y (G.at_ + (i : Int))) = G.nx ∧ tlE (secAt Y (G.at_ + (i : Int))) = me ∧ tlQ (secAt Y (G.at_ + (i : Int))) = G.nx := fun i hi => by
            obtain ⟨h1, h2⟩ := n4 i hi; have h3 := open_marks (x := readR (flat Y) (G.at_ + (i : Int))) h2.1; have h4 := h2.2.1; rw [← n5, ← n6] at h4
            simp only [List.cons.injEq, and_true] at h4
            rw [show openR (readR (flat Y) (G.at_ + (i : Int))) = oAt (flat Y) G.at_ i from rfl, h4.1, h4.2, readR_nil rfl] at h3; exact ⟨by omega, h3⟩
          by_cases hme : me = G.s.e
          · have hnew : ∀ i : Nat, i < n' → i < k ∧ secAt Y (G.at_ + (i : Int)) = secB G.s.e G.nx b i := fun i hi => by
              obtain ⟨h1, h2, h3, h4, h5⟩ := hop i hi; have hst := h.st (G.at_ + (i : Int)) (by omega) h1
              rcases hP (G.at_ + (i : Int)) (by omega) h1 with h | ⟨j, hj, he, h | h⟩
              · rw [h] at h4 h5; have := hst.2 (by omega); omega
              · obtain rfl : i = j := by omega
                exact ⟨hj, h⟩
              · rw [h, (mix_tl (hf j hj)).1] at h4; rw [h, (mix_tl (hf j hj)).2] at h5; have := hst.2 (by omega); omega
            have h0 := (hnew 0 (by omega)).2
            have h1 : (oAt (flat Y) G.at_ 0).n = (needN b.length : Nat) := by
              unfold oAt; rw [readR_nil rfl]
              show (openR (secAt Y (G.at_ + ((0 : Nat) : Int)))).n = _
              rw [h0, secB_open hm hb (by omega)]
            have h2 := (hnew (needN b.length - 1) (by omega)).1; omega
          · have hsame : ∀ i : Nat, i < n' → secAt Y (G.at_ + (i : Int)) = secAt S.secs (G.at_ + (i : Int)) := fun i hi => by
              obtain ⟨h1, h2, h3, h4, h5⟩ := hop i hi
              rcases hP (G.at_ + (i : Int)) (by omega) h1 with h | ⟨j, hj, he, h | h⟩
              · exact h
              · have hs := seal_part hm hb (k := j) (by omega); have h6 : epochOf (secB G.s.e G.nx b j) = G.s.e := (seal_hd hs).1; rw [h, h6] at h2; exact absurd h2.symm hme
              · have hs := seal_part hm hb (k := j) (by omega); have h6 : epochOf (secB G.s.e G.nx b j) = G.s.e := (seal_hd hs).1; rw [h, (mix_hd (hf j hj)).1, h6] at h2; exact absurd h2.symm hme
            refine e3 me b' next (frr_loc (S := flat Y) (S' := flat S.secs) hlen.symm rfl hfr fun p hp1 hp2 => ?_) hm1 hm2; have := hsame (p - G.at_).toNat (by omega); rw [show G.at_ + (((p - G.at_).toNat : Nat) : Int) = p by omega] at this; rw [readR_nil rfl, readR_nil rfl]
            exact this.symm)
        rw [List.append_nil] at e5; exact e5
    | step hfw hw2 =>
      cases hw2
      have hfw := hfw.out; rw [if_neg (by rw [hm]; simp; omega), if_neg (by omega)] at hfw
      rcases put_endsL hd (by omega) (by omega) (fun k hk => secB_len hm hb hk) hfw with ⟨l, rfl, _⟩ | ⟨k, l, hk, rfl, hl0, h⟩
      · exact absurd (by rw [flush_ok (by exact hd)]) hne
      · cases h
  | ok h' hw =>
    rcases hmc with ⟨h1, _⟩ | ⟨_, h2⟩
    · rw [h'] at h1; cases h1
    have hns := needS_one b
    rcases wr_ends hw hd (by rw [hp]; simp) (fun c hc => by rw [List.mem_singleton] at hc; subst hc; exact hb) (by omega) (by omega) (by omega) (by omega) (by omega) (by simp; omega) with ⟨_, rfl, w2, w3, w4, w5, w6, w7⟩ | ⟨h, _⟩
    · rw [hns] at w6 ⊢
      have hread : ∀ p : Int, 0 ≤ p → p < 514 → p < G.at_ ∨ G.at_ + (needN b.length : Nat) ≤ p → secAt S'.secs p = secAt S.secs p := fun p h0 h1 h3 => by
        have := w6 p h0 (by omega) h3
        rwa [readR_nil w2, readR_nil hp] at this
      have hmk : ∀ p : Int, G.at_ ≤ p → p < G.at_ + (needN b.length : Nat) → epochOf (secAt S'.secs p) = G.s.e ∧ seqOf (secAt S'.secs p) = G.nx ∧ tlE (secAt S'.secs p) = G.s.e ∧ tlQ (secAt S'.secs p) = G.nx := fun p h0 h1 => by
        obtain ⟨q', m1, m2, m3⟩ := w7.marks p h0 (by rw [hns]; exact h1)
        obtain rfl : q' = G.nx := by simp at m2; omega
        rwa [readR_nil w2] at m3
      have hstr : ∀ p : Int, 2 ≤ p → p < 514 → (epochOf (secAt S'.secs p) = G.s.e → seqOf (secAt S'.secs p) < G.nx + 1) ∧ (tlE (secAt S'.secs p) = G.s.e → tlQ (secAt S'.secs p) < G.nx + 1) := fun p hp2 hp3 => by
        by_cases hc : G.at_ ≤ p ∧ p < G.at_ + (needN b.length : Nat)
        · have := hmk p hc.1 hc.2; exact ⟨fun _ => by omega, fun _ => by omega⟩
        · rw [hread p (by omega) hp3 (by omega)]; have := h.st p hp2 hp3; exact ⟨fun he => by have := this.1 he; omega, fun he => by have := this.2 he; omega⟩
      refine .inr (.inl ⟨rfl, h2, ⟨w3, w2, hbad, ⟨by omega, hok.2.1, hso, h.di.n1, h.di.be, ?_, ?_, fun p hp2 hp3 => ?_, ?_⟩, hstr⟩, rfl, w4⟩)
      · show secAt S'.secs (G.s.n % 2) = slotX G.s
        rw [hread _ (by omega) (by omega) (by omega)]; exact h.di.sl
      · show tlQ (secAt S'.secs ((G.s.n + 1) % 2)) < G.s.n
        rw [hread _ (by omega) (by omega) (by omega)]; exact h.di.ot
      · show epochOf (secAt S'.secs p) ≤ G.s.e ∧ tlE (secAt S'.secs p) ≤ G.s.e
        by_cases hc : G.at_ ≤ p ∧ p < G.at_ + (needN b.length : Nat)
        · have := hmk p hc.1 hc.2; omega
        · rw [hread p (by omega) hp3 (by omega)]; exact h.di.mx p hp2 hp3
      · have hlen : (flat S'.secs).secs.length = (flat S.secs).secs.length := w5
        obtain ⟨least', e1, e2, e3, e4⟩ := recs_ext (S' := flat S'.secs) hlen rfl (Int.le_refl _) h.di.rc (fun x hx hx2 => by
          rw [readR_nil rfl, readR_nil rfl]
          exact hread x (by omega) (by omega) (.inl hx2))
        have hbe := h.di.be; have hh : Holds (flat S'.secs) G.at_ G.s.e G.nx b := ⟨w7.1.1, w7.1.2.1, fun k hk => by rw [← read_flat w2]; exact w7.1.2.2 k hk⟩; refine e4 [b] _ _ (.step (frr_holds hh rfl (by omega) (by omega) (by show beginR G.s.h + 256 ≤ ((S'.secs.length : Nat) : Int); omega)) (by omega) (Int.le_refl _) (recs_stop fun me b' next hfr hm1 hm2 => ?_)); obtain ⟨f1, f2, f3⟩ := frr_mark hfr; rw [readR_nil rfl] at f2 f3; have := h.st (G.at_ + (needN b.length : Nat)) (by omega) (by omega); rw [← hread _ (by omega) (by omega) (.inr (Int.le_refl _))] at this; have f4 : seqOf (secAt S'.secs (G.at_ + (needN b.length : Nat))) < G.nx := this.1 (by have e : epochOf (secAt S'.secs (G.at_ + (needN b.length : Nat))) = me := f2; omega); have f5 : seqOf (secAt S'.secs (G.at_ + (needN b.length : Nat))) = G.nx + 1 := f3; omega
    · cases h
theorem rows_recs {S : DS} (hd : S.down = false) {en e : Int} (hen : en ≤ S.secs.length) : ∀ {bss : List (List UInt8)} {at_ q : Int}, 0 ≤ at_ → RowsAt S e at_ q bss → at_ + (needS bss : Nat) ≤ en → NoRec S en e e (at_ + (needS bss : Nat)) (q + (bss.length : Nat)) → Recs S en e e at_ q bss (at_ + (needS bss : Nat)) (q + (bss.length : Nat))
  | [], at_, q, h0, _, h1, h2 => by
    have e1 : at_ + ((needS [] : Nat) : Int) = at_ := by simp [needS]
    have e2 : q + ((([] : List (List UInt8)).length : Nat) : Int) = q := by simp
    rw [e1, e2] at h2 ⊢; exact recs_stop h2
  | b :: r, at_, q, h0, h, h1, h2 => by
    rw [needS_cons] at h1
    have e1 : at_ + ((needS (b :: r) : Nat) : Int) = at_ + (needN b.length : Nat) + (needS r : Nat) := by rw [needS_cons]; omega
    have e2 : q + (((b :: r).length : Nat) : Int) = q + 1 + (r.length : Nat) := by rw [List.length_cons]; omega
    rw [e1, e2] at h2 ⊢; exact .step (frr_holds h.1 hd h0 (by omega) hen) (Int.le_refl _) (Int.le_refl _) (rows_recs hd hen (by omega) h.2 (by omega) h2)
theorem rows_same {S S' : DS} {e : Int} : ∀ {bss : List (List UInt8)} {at_ q : Int}, (∀ p, at_ ≤ p → readR S' p = readR S p) → RowsAt S e at_ q bss → RowsAt S' e at_ q bss
  | [], at_, q, _, _ => trivial
  | b :: r, at_, q, hr, h => ⟨⟨h.1.1, h.1.2.1, fun k hk => by rw [hr _ (by omega)]; exact h.1.2.2 k hk⟩, rows_same (fun p hp => hr p (by omega)) h.2⟩
theorem beg (h : Int) : beginR h = 2 + h * 256 := rfl
theorem turn_li {S S' : DS} {G G' : LG} {bs bss : List (List UInt8)} {er : Int} (h : LI S G bs) (hb : ∀ b ∈ bss, needN b.length ≤ 255) (hx : G.nx + (bss.length : Nat) ≤ 16777215) (hn : G.s.n < 16777214) (hok : DOk S') (ht : TuR S G bss S' G' er) :
    (er = 5 ∧ S' = S ∧ G' = G ∧ 256 < needS bss) ∨
    (er = 0 ∧ needS bss ≤ 256 ∧ LI S' G' bss ∧ G' = ⟨turnS G, beginR (1 - G.s.h) + (needS bss : Nat), G.nx + (bss.length : Nat), 0⟩ ∧ (S.left = -1 → S'.left = -1)) ∨
    (er = 8 ∧ S.left ≠ -1 ∧ S'.down = true ∧ G' = G.ill 8 ∧ ∀ ks, DI (crashR S' ks).secs G.s bs G.at_ G.nx) := by
  obtain ⟨hd, hp, hbad, hl, hso⟩ := h.dn; have hrg := h.di.rng; have hso' := hso; unfold SlotOk at hso'; have hb1 := beg (1 - G.s.h); have hmc := may_cases (G := G) (room := 256) hbad hb (by omega)
  have hwr : ∀ S1 a er, WrR G.s.e S (beginR (1 - G.s.h)) G.nx bss S1 a er → needS bss ≤ 256 → _ := fun S1 a er hw h2 => wr_ends hw hd (by rw [hp]; simp) hb (by omega) (by omega) (by omega) (by omega) (by omega) (by omega)
  have hin : ∀ S1 : DS, S1.pend = [] → S1.secs.length = 514 → (∀ x ∈ S1.secs, x.length = 32) → needS bss ≤ 256 → (∀ p : Int, 0 ≤ p → p < (S.secs.length : Int) → p < beginR (1 - G.s.h) ∨ beginR (1 - G.s.h) + (needS bss : Nat) ≤ p → readR S1 p = readR S p) → RowsAt S1 G.s.e (beginR (1 - G.s.h)) G.nx bss →
      (∀ p : Int, 2 ≤ p → p < 514 → epochOf (secAt S1.secs p) ≤ G.s.e ∧ tlE (secAt S1.secs p) ≤ G.s.e) ∧ (∀ p : Int, 2 ≤ p → p < 514 → (epochOf (secAt S1.secs p) = G.s.e → seqOf (secAt S1.secs p) < G.nx + (bss.length : Nat)) ∧ (tlE (secAt S1.secs p) = G.s.e → tlQ (secAt S1.secs p) < G.nx + (bss.length : Nat))) ∧
      (∀ p : Int, 0 ≤ p → p < 514 → p < beginR (1 - G.s.h) ∨ beginR (1 - G.s.h) + (needS bss : Nat) ≤ p → secAt S1.secs p = secAt S.secs p) := fun S1 w2 w5 wa h2 w6 w7 => by
    have hread : ∀ p : Int, 0 ≤ p → p < 514 → p < beginR (1 - G.s.h) ∨ beginR (1 - G.s.h) + (needS bss : Nat) ≤ p → secAt S1.secs p = secAt S.secs p := fun p h0 h1 h3 => by
      have := w6 p h0 (by omega) h3
      rwa [readR_nil w2, readR_nil hp] at this
    have hmk : ∀ p : Int, beginR (1 - G.s.h) ≤ p → p < beginR (1 - G.s.h) + (needS bss : Nat) → ∃ q', G.nx ≤ q' ∧ q' < G.nx + (bss.length : Nat) ∧ epochOf (secAt S1.secs p) = G.s.e ∧ seqOf (secAt S1.secs p) = q' ∧ tlE (secAt S1.secs p) = G.s.e ∧ tlQ (secAt S1.secs p) = q' := fun p h0 h1 => by
      have := w7.marks p h0 h1
      rwa [readR_nil w2] at this
    refine ⟨fun p hp2 hp3 => ?_, fun p hp2 hp3 => ?_, hread⟩
    · by_cases hc : beginR (1 - G.s.h) ≤ p ∧ p < beginR (1 - G.s.h) + (needS bss : Nat)
      · obtain ⟨q', m1, m2, m3, m4, m5, m6⟩ := hmk p hc.1 hc.2; omega
      · rw [hread p (by omega) hp3 (by omega)]; exact h.di.mx p hp2 hp3
    · by_cases hc : beginR (1 - G.s.h) ≤ p ∧ p < beginR (1 - G.s.h) + (needS bss : Nat)
      · obtain ⟨q', m1, m2, m3, m4, m5, m6⟩ := hmk p hc.1 hc.2; exact ⟨fun _ => by omega, fun _ => by omega⟩
      · rw [hread p (by omega) hp3 (by omega)]; have := h.st p hp2 hp3; exact ⟨fun he => by have := this.1 he; omega, fun he => by have := this.2 he; omega⟩
  have hkeep : ∀ Y : List (List UInt8), Y.length = 514 → (∀ x ∈ Y, x.length = 32) → (∀ p : Int, 2 ≤ p → p < 514 → epochOf (secAt Y p) ≤ G.s.e ∧ tlE (secAt Y p) ≤ G.s.e) → (∀ p : Int, 0 ≤ p → p < 514 → p < beginR (1 - G.s.h) ∨ beginR (1 - G.s.h) + 256 ≤ p → secAt Y p = secAt S.secs p) → DI Y G.s bs G.at_ G.nx := fun Y y1 y2 y3 y4 =>
    ⟨y1, y2, hso, h.di.n1, h.di.be, by rw [y4 _ (by omega) (by omega) (by omega)]; exact h.di.sl, by rw [y4 _ (by omega) (by omega) (by omega)]; exact h.di.ot, y3,
      recs_in (S := flat S.secs) (S' := flat Y) (by show Y.length = S.secs.length; omega) rfl h.di.rc fun x hx hx2 => by
        rw [readR_nil rfl, readR_nil rfl]
        exact y4 x (by omega) (by omega) (by omega)⟩
  cases ht with
  | may h' =>
    rcases hmc with ⟨h1, h2⟩ | ⟨h1, _⟩
    · exact .inl ⟨h1, rfl, rfl, by omega⟩
    · exact absurd h1 h'
  | full _ h' => omega
  | wr h' _ hw hne =>
    rcases hmc with ⟨h1, _⟩ | ⟨_, h2⟩
    · rw [h'] at h1; cases h1
    rcases hwr _ _ _ hw (by omega) with ⟨h, _⟩ | ⟨rfl, w2, w3, w4, ps, w5, w6⟩
    · exact absurd h hne
    · refine .inr (.inr ⟨rfl, w3, w2, rfl, fun ks => ?_⟩); rw [hp, List.nil_append] at w5; obtain ⟨c1, c2⟩ := crash_ok hok ks
      have hP := fun (q : Int) (h0 : 0 ≤ q) (h1 : q < 514) => crash_P (S := S') (fun q c => (q < beginR (1 - G.s.h) ∨ beginR (1 - G.s.h) + 256 ≤ q → c = secAt S.secs q) ∧ (2 ≤ q → epochOf c ≤ G.s.e ∧ tlE c ≤ G.s.e)) ks
        (fun x hx => by rw [w5] at hx; have := w6 x hx; omega) (fun q h0 h1 => by rw [w4] at h1 ⊢; exact ⟨fun _ => rfl, fun h2 => h.di.mx q h2 (by omega)⟩)
        (fun x hx c m hm hlt hc => by
          rw [w5] at hx; obtain ⟨x1, x2, x3, x4, x5⟩ := w6 x hx; refine ⟨fun h => by omega, fun h2 => ?_⟩; have hc2 := hc.2 h2
          rcases hm with rfl | rfl | rfl
          · simpa using hc2
          · have e1 : epochOf (x.2.take 16 ++ c.drop 16) = epochOf x.2 := (mix_hd x3).1; have e2 : tlE (x.2.take 16 ++ c.drop 16) = tlE c := (mix_tl x3).1; rw [e1, e2, x4]; exact ⟨Int.le_refl _, hc2.2⟩
          · rw [List.take_of_length_le (by rw [x3]; exact Nat.le_refl _)]
            by_cases hcl : c.length ≤ 32
            · rw [List.drop_eq_nil_of_le hcl, List.append_nil, x4, x5]; exact ⟨Int.le_refl _, Int.le_refl _⟩
            · have e1 : ∀ k : Nat, k < 32 → bat (x.2 ++ c.drop 32) (k : Int) = bat x.2 (k : Int) := fun k hk => by
                rw [bat_nat, bat_nat, List.getD_eq_getElem?_getD, List.getD_eq_getElem?_getD, List.getElem?_append_left (by omega)]
              have f0 := e1 0 (by decide); have f1 := e1 1 (by decide); have f30 := e1 30 (by decide); have f31 := e1 31 (by decide)
              have g1 : epochOf (x.2 ++ c.drop 32) = epochOf x.2 := by
                show bat (x.2 ++ c.drop 32) ((0 : Nat) : Int) * 2 ^ 8 + bat (x.2 ++ c.drop 32) ((1 : Nat) : Int) = bat x.2 ((0 : Nat) : Int) * 2 ^ 8 + bat x.2 ((1 : Nat) : Int)
                rw [f0, f1]
              have g2 : tlE (x.2 ++ c.drop 32) = tlE x.2 := by
                show bat (x.2 ++ c.drop 32) ((30 : Nat) : Int) * 2 ^ 8 + bat (x.2 ++ c.drop 32) ((31 : Nat) : Int) = bat x.2 ((30 : Nat) : Int) * 2 ^ 8 + bat x.2 ((31 : Nat) : Int)
                rw [f30, f31]
              rw [g1, g2, x4, x5]
              exact ⟨Int.le_refl _, Int.le_refl _⟩) h0 (by rw [w4]; omega)
      exact hkeep _ (by rw [c1, w4]; exact hl) c2 (fun p hp2 hp3 => (hP p (by omega) hp3).2 hp2) (fun p h0 h1 h3 => (hP p h0 h1).1 h3)
  | st h' _ hw hne =>
    rename_i S1 wa0 hno0
    rcases hmc with ⟨h1, _⟩ | ⟨_, h2⟩
    · rw [h'] at h1; cases h1
    rcases hwr _ _ _ hw (by omega) with ⟨_, _, w2, w3, w4, w5, w6, w7⟩ | ⟨h, _⟩
    · rcases store_cases w3 w2 (by omega) (s := turnS G) (by show mayM G.s.e (G.s.n + 1) = true; unfold mayM; simp only [Bool.and_eq_true, decide_eq_true_eq]; omega) (by show 0 ≤ G.s.n + 1; omega) with ⟨hs, hl0⟩ | ⟨l, hs, _⟩
      · rw [hs] at hok ⊢; have wa : ∀ x ∈ S1.secs, x.length = 32 := hok.2.1; obtain ⟨i1, i2, i3⟩ := hin S1 w2 (by omega) wa (by omega) (fun p h0 h1 h3 => w6 p h0 h1 (by omega)) w7; refine .inr (.inr ⟨rfl, fun hc => by have := w4 hc; omega, rfl, rfl, fun ks => ?_⟩); rw [crash_nil (by exact w2)]; exact hkeep _ (by show S1.secs.length = 514; omega) wa i1 (fun p h0 h1 h3 => i3 p h0 h1 (by omega))
      · rw [hs] at hne; exact absurd rfl hne
    · cases h
  | ok h' _ hw hz =>
    rename_i S1 wa0 hno0
    rcases hmc with ⟨h1, _⟩ | ⟨_, h2⟩
    · rw [h'] at h1; cases h1
    rcases hwr _ _ _ hw (by omega) with ⟨_, rfl, w2, w3, w4, w5, w6, w7⟩ | ⟨h, _⟩
    · rcases store_cases w3 w2 (by omega) (s := turnS G) (by show mayM G.s.e (G.s.n + 1) = true; unfold mayM; simp only [Bool.and_eq_true, decide_eq_true_eq]; omega) (by show 0 ≤ G.s.n + 1; omega) with ⟨hs, hl0⟩ | ⟨l, hs, hl1⟩
      · rw [hs] at hz; cases hz
      rw [hs] at hok ⊢
      have hsec : ∀ q : Int, 0 ≤ q → secAt (S1.secs.set ((turnS G).n % 2).toNat (slotX (turnS G))) q = if (turnS G).n % 2 = q then slotX (turnS G) else secAt S1.secs q := fun q hq => sec_set (by omega) (by omega) hq
      have htn : (turnS G).n = G.s.n + 1 := rfl; have hte : (turnS G).e = G.s.e := rfl; have hth : (turnS G).h = 1 - G.s.h := rfl
      have hsT : SlotOk (turnS G) := by
        unfold SlotOk turnS; dsimp only; omega
      have hS2 : ∀ q : Int, 2 ≤ q → secAt (S1.secs.set ((turnS G).n % 2).toNat (slotX (turnS G))) q = secAt S1.secs q := fun q hq => by rw [hsec q (by omega), if_neg (by omega)]
      have wa : ∀ p : Int, 2 ≤ p → p < 514 → True := fun _ _ _ => trivial
      obtain ⟨i1, i2, i3⟩ := hin { S1 with secs := S1.secs } w2 (by show S1.secs.length = 514; omega) (fun x hx => by
        obtain ⟨k, hk, rfl⟩ := List.getElem_of_mem hx
        by_cases hc : k = ((turnS G).n % 2).toNat
        · have := w6 (k : Int) (by omega) (by omega) (by omega); rw [readR_nil w2, readR_nil hp] at this; have h3 := secAt_len h.di.all (p := (k : Int)) (by omega) (by omega); rw [← this] at h3
          have e : secAt S1.secs (k : Int) = S1.secs[k] := by
            unfold secAt; rw [Int.toNat_natCast, List.getD_eq_getElem?_getD, List.getElem?_eq_getElem hk]
            rfl
          rw [← e]; exact h3
        · have hk2 : k < (S1.secs.set ((turnS G).n % 2).toNat (slotX (turnS G))).length := by rw [List.length_set]; exact hk
          have := hok.2.1 _ (List.getElem_mem hk2)
          rwa [List.getElem_set_ne (by omega)] at this) (by omega) (fun p h0 h1 h3 => w6 p h0 h1 (by omega)) w7
      replace i1 : ∀ p : Int, 2 ≤ p → p < 514 → epochOf (secAt S1.secs p) ≤ G.s.e ∧ tlE (secAt S1.secs p) ≤ G.s.e := i1; replace i2 : ∀ p : Int, 2 ≤ p → p < 514 → (epochOf (secAt S1.secs p) = G.s.e → seqOf (secAt S1.secs p) < G.nx + (bss.length : Nat)) ∧ (tlE (secAt S1.secs p) = G.s.e → tlQ (secAt S1.secs p) < G.nx + (bss.length : Nat)) := i2; replace i3 : ∀ p : Int, 0 ≤ p → p < 514 → p < beginR (1 - G.s.h) ∨ beginR (1 - G.s.h) + (needS bss : Nat) ≤ p → secAt S1.secs p = secAt S.secs p := i3; refine .inr (.inl ⟨rfl, by omega, ⟨w3, rfl, hbad, ⟨?_, hok.2.1, hsT, ?_, Int.le_refl _, ?_, ?_, fun p hp2 hp3 => ?_, ?_⟩, fun p hp2 hp3 => ?_⟩, by rw [hbad], fun hc => hl1 (w4 hc)⟩)
      · dsimp only; rw [List.length_set]; omega
      · show 1 ≤ G.s.n + 1
        omega
      · show secAt (S1.secs.set ((turnS G).n % 2).toNat (slotX (turnS G))) ((turnS G).n % 2) = _
        rw [hsec _ (by omega), if_pos rfl]
      · show tlQ (secAt (S1.secs.set ((turnS G).n % 2).toNat (slotX (turnS G))) (((turnS G).n + 1) % 2)) < (turnS G).n
        rw [hsec _ (by omega), if_neg (by omega), show ((turnS G).n + 1) % 2 = G.s.n % 2 by omega, i3 _ (by omega) (by omega) (by omega), h.di.sl, slot_tl hso]; omega
      · show epochOf (secAt (S1.secs.set ((turnS G).n % 2).toNat (slotX (turnS G))) p) ≤ G.s.e ∧ tlE (secAt (S1.secs.set ((turnS G).n % 2).toNat (slotX (turnS G))) p) ≤ G.s.e
        rw [hS2 p hp2]; exact i1 p hp2 hp3
      · have hr2 : ∀ p : Int, beginR (1 - G.s.h) ≤ p → readR (flat (S1.secs.set ((turnS G).n % 2).toNat (slotX (turnS G)))) p = readR S1 p := fun p hp => by
          rw [readR_nil rfl, readR_nil w2]; exact hS2 p (by omega)
        show Recs (flat (S1.secs.set ((turnS G).n % 2).toNat (slotX (turnS G)))) (beginR (1 - G.s.h) + 256) G.s.e G.s.e (beginR (1 - G.s.h)) G.nx bss (beginR (1 - G.s.h) + (needS bss : Nat)) (G.nx + (bss.length : Nat))
        refine rows_recs (S := flat (S1.secs.set ((turnS G).n % 2).toNat (slotX (turnS G)))) rfl (en := beginR (1 - G.s.h) + 256) (e := G.s.e) (by
          show beginR (1 - G.s.h) + 256 ≤ (((S1.secs.set ((turnS G).n % 2).toNat (slotX (turnS G))).length : Nat) : Int)
          rw [List.length_set]; omega) (by omega) (rows_same hr2 w7) (by omega) fun me b' next hfr hm1 hm2 => ?_
        obtain ⟨f1, f2, f3⟩ := frr_mark hfr; rw [readR_nil rfl] at f2 f3; have f4 := i2 (beginR (1 - G.s.h) + (needS bss : Nat)) (by omega) (by omega); rw [← hS2 _ (by omega)] at f4
        have f5 : seqOf (secAt (S1.secs.set ((turnS G).n % 2).toNat (slotX (turnS G))) (beginR (1 - G.s.h) + (needS bss : Nat))) < G.nx + (bss.length : Nat) := f4.1 (by
          have e : epochOf (secAt (S1.secs.set ((turnS G).n % 2).toNat (slotX (turnS G))) (beginR (1 - G.s.h) + (needS bss : Nat))) = me := f2
          omega)
        have f6 : seqOf (secAt (S1.secs.set ((turnS G).n % 2).toNat (slotX (turnS G))) (beginR (1 - G.s.h) + (needS bss : Nat))) = G.nx + (bss.length : Nat) := f3; omega
      · show (epochOf (secAt (S1.secs.set ((turnS G).n % 2).toNat (slotX (turnS G))) p) = G.s.e → seqOf (secAt (S1.secs.set ((turnS G).n % 2).toNat (slotX (turnS G))) p) < G.nx + (bss.length : Nat)) ∧ (tlE (secAt (S1.secs.set ((turnS G).n % 2).toNat (slotX (turnS G))) p) = G.s.e → tlQ (secAt (S1.secs.set ((turnS G).n % 2).toNat (slotX (turnS G))) p) < G.nx + (bss.length : Nat))
        rw [hS2 p hp2]; exact i2 p hp2 hp3
    · cases h
set_option linter.constructorNameAsVariable false
theorem zeroB_not : openOk zeroB = false := by decide
theorem zeroB_open : openR zeroB = ⟨0, 0, 0, 0, [], 2⟩ := openR_bad zeroB_not
theorem zeroB_slot : slotAt zeroB = none := by
  unfold slotAt; rw [zeroB_open]
  rfl
theorem zero_norec (Y : List (List UInt8)) (hY : secAt Y 2 = zeroB) : NoRec (flat Y) (beginR slot1.h + 256) slot1.e slot1.b (beginR slot1.h) slot1.f := by
  intro me b next hfr _ _
  generalize beginR slot1.h + 256 = en at hfr
  have e2 : beginR slot1.h = 2 := by decide
  rw [e2] at hfr; have hm := frr_mark hfr; have f3 := hm.2.2; rw [readR_nil rfl] at f3; have f4 : seqOf (secAt Y 2) = 1 := f3; rw [hY] at f4; exact absurd f4 (by decide)
theorem format_di {S S' : DS} {er : Int} (hd : S.down = false) (hl : S.secs.length = 514) (hok : DOk S) (hok' : DOk S') (hf : FmR S S' er) :
    (er = 0 ∧ DI S'.secs slot1 [] 2 1 ∧ S'.pend = [] ∧ S'.down = false ∧ (S.left = -1 → S'.left = -1)) ∨ (er = 8 ∧ S.left ≠ -1 ∧ S'.down = true) := by
  have hz32 : zeroB.length = 32 := rfl
  have hput := fun k (hk : k ≤ 514) hz => put_any hd (at_ := 0) (f := fun _ => zeroB) (n := 514) (by omega) (by omega) (fun _ _ => hz32) k hk hz
  have hflush : ∀ l, (S.left = -1 → l = -1) → zput S 514 = { S with pend := S.pend ++ putP 0 (fun _ => zeroB) 514, left := l } → ∃ X, flushR (zput S 514) = ({ S with secs := X, pend := [], left := l }, 0) ∧ X.length = 514 ∧ ∀ p : Int, 0 ≤ p → p < 514 → secAt X p = zeroB := fun l _ hz => by
    rw [hz]; refine ⟨_, flush_ok (S := { S with pend := S.pend ++ putP 0 (fun _ => zeroB) 514, left := l }) hd, by rw [flush_len]; exact hl, fun p h0 h1 => ?_⟩
    have h2 := flush_read (S := { S with pend := S.pend ++ putP 0 (fun _ => zeroB) 514, left := l }) hd (fun x hx => by
      rcases List.mem_append.1 hx with hx | hx
      · exact (hok.2.2.1 x hx).2
      · obtain ⟨j, hj, rfl⟩ := putP_mem hx; dsimp only
        omega) (p := p) h0 (by show p < (S.secs.length : Int); omega)
    rw [flush_ok (S := { S with pend := S.pend ++ putP 0 (fun _ => zeroB) 514, left := l }) hd, readR_nil rfl] at h2; dsimp only at h2; rw [h2]; have h3 := read_in (S := { S with left := l }) (at_ := 0) (f := fun _ => zeroB) (n := 514) (j := p.toNat) (by omega)
    rwa [show (0 : Int) + ((p.toNat : Nat) : Int) = p by omega] at h3
  cases hf with
  | len h => omega
  | wr _ hk hz hne =>
    rename_i k hk0
    obtain ⟨l, h, hl0⟩ := hput k (by omega) hz; have e1 : zput S (k + 1) = (writeR (putTo S 0 (fun _ => zeroB) k) (0 + (k : Int)) zeroB).1 := rfl; have e2 : zputE S k = (writeR (putTo S 0 (fun _ => zeroB) k) (0 + (k : Int)) zeroB).2 := rfl; rw [h] at e1 e2
    rcases write_cases (S := { S with pend := S.pend ++ putP 0 (fun _ => zeroB) k, left := l }) hd (a := 0 + (k : Int)) (b := zeroB) (by omega) (by show 0 + (k : Int) < (S.secs.length : Int); omega) hz32 with ⟨h', hl'⟩ | ⟨l', h', _⟩
    · rw [h'] at e1 e2; rw [e1, e2]; have hl'' : l = 0 := hl'; exact .inr ⟨rfl, fun hc => by have := hl0 hc; omega, rfl⟩
    · rw [h'] at e2; exact absurd e2 hne
  | fl _ hz hne =>
    obtain ⟨l, h, hl0⟩ := hput 514 (Nat.le_refl _) hz; obtain ⟨X, hX, _⟩ := hflush l hl0 h; rw [hX] at hne; exact absurd rfl hne
  | st _ hz _ =>
    obtain ⟨l, h, hl0⟩ := hput 514 (Nat.le_refl _) hz; obtain ⟨X, hX, hX1, hX2⟩ := hflush l hl0 h; rw [hX] at hok' ⊢; dsimp only at hok' ⊢
    rcases store_cases (S := { S with secs := X, pend := [], left := l }) hd rfl hX1 (s := slot1) (by decide) (by decide) with ⟨hs, hl1⟩ | ⟨l', hs, hl1⟩
    · rw [hs]; have hl'' : l = 0 := hl1; exact .inr ⟨rfl, fun hc => by have := hl0 hc; omega, rfl⟩
    · rw [hs] at hok' ⊢
      have hsec : ∀ q : Int, 0 ≤ q → secAt (X.set (slot1.n % 2).toNat (slotX slot1)) q = if slot1.n % 2 = q then slotX slot1 else secAt X q := fun q hq => sec_set (by decide) (by rw [hX1]; decide) hq
      have h2 : ∀ p : Int, 2 ≤ p → p < 514 → secAt (X.set (slot1.n % 2).toNat (slotX slot1)) p = zeroB := fun p hp hp2 => by
        rw [hsec p (by omega), if_neg (by show ¬ (1 : Int) % 2 = p; omega), hX2 p (by omega) hp2]
      refine .inl ⟨rfl, ⟨by dsimp only; rw [List.length_set]; exact hX1, hok'.2.1, by unfold SlotOk slot1; decide, by decide, by decide, ?_, ?_, fun p hp hp2 => ?_, ?_⟩, rfl, hd, fun hc => hl1 (hl0 hc)⟩
      · show secAt (X.set (slot1.n % 2).toNat (slotX slot1)) (slot1.n % 2) = _
        rw [hsec _ (by decide), if_pos rfl]
      · show tlQ (secAt (X.set (slot1.n % 2).toNat (slotX slot1)) ((slot1.n + 1) % 2)) < slot1.n
        rw [hsec _ (by decide), if_neg (by decide), hX2 _ (by decide) (by show ((1 : Int) + 1) % 2 < 514; omega)]
        decide
      · show epochOf (secAt (X.set (slot1.n % 2).toNat (slotX slot1)) p) ≤ slot1.e ∧ tlE (secAt (X.set (slot1.n % 2).toNat (slotX slot1)) p) ≤ slot1.e
        rw [h2 p hp hp2]
        decide
      · exact recs_stop (zero_norec _ (h2 2 (by omega) (by omega)))
def newL : DS := ⟨List.replicate 514 zeroB, [], -1, false⟩
theorem newL_none : newestR newL = (slot0, 3) := by
  have h : ∀ p : Int, p = 0 ∨ p = 1 → slotAt (readR newL p) = none := fun p hp => by
    rw [readR_nil rfl]
    rcases hp with rfl | rfl <;> exact zeroB_slot
  unfold newestR; rw [if_neg (by decide), if_neg (by show ¬ (List.replicate 514 zeroB).length < 2; rw [List.length_replicate]; decide), h 0 (.inl rfl), h 1 (.inr rfl)]
  rfl
theorem newL_opn {S' : DS} {er : Int} {G : LG} {bs : List (List UInt8)} (h : OpnR newL S' er G bs) : S' = newL ∧ er = 3 := by
  have h0 := newL_none
  cases h with
  | len h => exact absurd (by show ((List.replicate 514 zeroB).length : Int) = 514; rw [List.length_replicate]; omega) h
  | none _ _ => rw [h0]; exact ⟨rfl, rfl⟩
  | st1 _ h _ => rw [h0] at h; cases h
  | full _ h _ _ => rw [h0] at h; cases h
  | st2 _ h _ _ _ => rw [h0] at h; cases h
  | ok _ h _ _ _ _ => rw [h0] at h; cases h
end Go.Proofs.YtadgbifmiooikaaGreatX
namespace Go.Proofs.YtadgbifmiooikaaGreatX
set_option linter.unusedVariables false
set_option linter.unusedSimpArgs false
open Go Go.RowKit Go.Proofs
theorem newR_L : newR 514 = newL := by
  unfold newR newL; rw [if_neg (by decide), if_neg (by decide)]
  rfl
theorem DiskO.ok {d : Value} {S : DS} {Ld : Own} (hd : DiskO d S Ld) : DOk S := by obtain ⟨_, _, _, _, _, _, _, _, _, hok⟩ := hd; exact hok
theorem format_up {w0 w : World} {I : Imm} {L Ld : Own} {d : Value} {S : DS} (hd : DiskO d S Ld) (hst : St w0 w I (Ld ++ L)) (hu : Up S) (hl : S.secs.length = 514) (hpn : S.pend.length ≤ 600000) :
    Calls Tryz.prog 26 #[d] w fun e w' => ∃ I' Ld' S', Imm.le I I' ∧ e = .returned (.int .i64 0) ∧ St w0 w' I' (Ld' ++ L) ∧ DiskO d S' Ld' ∧ Up S' ∧ S'.pend = [] ∧ DI S'.secs slot1 [] 2 1 := by
  refine (format_log hd hst hpn).mono fun e w' ⟨I', Ld', S', er, h1, h2, h3, h4, h5⟩ => ?_
  rcases format_di hu.1 hl hd.ok h4.ok h5 with ⟨rfl, g1, g2, g3, g4⟩ | ⟨_, g, _⟩
  · exact ⟨I', Ld', S', h1, h2, h3, h4, ⟨g3, g4 hu.2⟩, g2, g1⟩
  · exact absurd hu.2 g
theorem open_up {w0 w : World} {I : Imm} {L Ld : Own} {d : Value} {S : DS} {s : Slot} {bs : List (List UInt8)} {a nx : Int} (hd : DiskO d S Ld) (hst : St w0 w I (Ld ++ L)) (hu : Up S) (hp : S.pend = []) (hdi : DI S.secs s bs a nx) (hb : s.n < 16777215 ∧ s.e < 65535) :
    Calls Tryz.prog 27 #[d] w fun e w' => ∃ I' Ld' lb y vs S', Imm.le I I' ∧ e = .returned (.tuple #[.pointer (some ⟨lb, 0, none⟩), y, .int .i64 0]) ∧ St w0 w' I' ((lb, .cells (logV d ⟨s.up, a, nx, 0⟩).toArray 92) :: (Ld' ++ L)) ∧ DiskO d S' Ld' ∧ RdR I' y vs bs ∧ LI S' ⟨s.up, a, nx, 0⟩ bs ∧ Up S' := by
  refine (open_log hd hst (by rw [hp]; exact Nat.zero_le _)).mono fun e w' ⟨I', Ld', Lo, x, y, S', er, G, bs', h1, h2, h3, h4, h5, h6⟩ => ?_
  rcases open_di hu.1 hp hdi hb h6 with ⟨rfl, rfl, rfl, g3, g4⟩ | ⟨_, g, _⟩
  · rcases h5 with ⟨h, _⟩ | ⟨_, lb, vs, rfl, rfl, hr⟩
    · exact absurd rfl h
    · exact ⟨I', Ld', lb, y, vs, S', h1, h2, h3, h4, hr, g3, g3.on, g4 hu.2⟩
  · exact absurd hu.2 g
theorem open_none {w0 w : World} {I : Imm} {L Ld : Own} {d : Value} (hd : DiskO d newL Ld) (hst : St w0 w I (Ld ++ L)) :
    Calls Tryz.prog 27 #[d] w fun e w' => ∃ I' Ld', Imm.le I I' ∧ e = .returned (.tuple #[.pointer none, .slice none 0 0, .int .i64 3]) ∧ St w0 w' I' (Ld' ++ L) ∧ DiskO d newL Ld' := by
  refine (open_log hd hst (Nat.zero_le _)).mono fun e w' ⟨I', Ld', Lo, x, y, S', er, G, bs', h1, h2, h3, h4, h5, h6⟩ => ?_
  obtain ⟨rfl, rfl⟩ := newL_opn h6
  rcases h5 with ⟨_, rfl, rfl, rfl⟩ | ⟨h, _⟩
  · exact ⟨I', Ld', h1, h2, h3, h4⟩
  · cases h
end Go.Proofs.YtadgbifmiooikaaGreatX
namespace Go.Proofs.YtadgbifmiooikaaGreatX
set_option linter.unusedVariables false
set_option linter.unusedSimpArgs false
open Go Go.RowKit
abbrev AT := List (Int × It) × Int
def apE (b : List UInt8) : Int :=
  if wordOf ((decA b).getD []) = putL then (if (putOk ((decA b).getD []) b).isSome = true then 0 else 2)
  else if isNum (atA ((decA b).getD []) 1) = true ∧ ((decA b).getD []).length = 2 then
    (if wordOf ((decA b).getD []) = dropL then 0 else if wordOf ((decA b).getD []) = nextL then 0 else 2)
  else 2
def apS (s : AT) (b : List UInt8) : AT :=
  if wordOf ((decA b).getD []) = putL then match putOk ((decA b).getD []) b with
    | some it => (pput s.1 it.id it, nextR s.2 it.id)
    | none => s
  else if isNum (atA ((decA b).getD []) 1) = true ∧ ((decA b).getD []).length = 2 then
    (if wordOf ((decA b).getD []) = dropL then (pdel s.1 (numOf (atA ((decA b).getD []) 1)), s.2)
    else if wordOf ((decA b).getD []) = nextL then (s.1, if numOf (atA ((decA b).getD []) 1) > s.2 then numOf (atA ((decA b).getD []) 1) else s.2)
    else s)
  else s
theorem Ap_abs {b : List UInt8} {rows rows' : List TRow} {next next' err : Int} (ha : Ap b rows next err rows' next') : err = apE b ∧ (absT rows', next') = apS (absT rows, next) b := by
  unfold Ap at ha; unfold apE apS
  by_cases h1 : wordOf ((decA b).getD []) = putL
  · rw [if_pos h1] at ha ⊢; rw [if_pos h1]
    cases hp : putOk ((decA b).getD []) b with
    | some it =>
      rw [hp] at ha; obtain ⟨rfl, ⟨v, rfl⟩, rfl⟩ := ha; exact ⟨rfl, by rw [absT_put]⟩
    | none =>
      rw [hp] at ha; obtain ⟨rfl, rfl, rfl⟩ := ha; exact ⟨rfl, rfl⟩
  · rw [if_neg h1] at ha ⊢; rw [if_neg h1]
    by_cases h2 : isNum (atA ((decA b).getD []) 1) = true ∧ ((decA b).getD []).length = 2
    · rw [if_pos h2] at ha ⊢; rw [if_pos h2]
      by_cases h3 : wordOf ((decA b).getD []) = dropL
      · rw [if_pos h3] at ha ⊢; rw [if_pos h3]; obtain ⟨rfl, rfl, rfl⟩ := ha; exact ⟨rfl, by rw [absT_del]⟩
      · rw [if_neg h3] at ha ⊢; rw [if_neg h3]
        by_cases h4 : wordOf ((decA b).getD []) = nextL
        · rw [if_pos h4] at ha ⊢; rw [if_pos h4]; obtain ⟨rfl, rfl, rfl⟩ := ha; exact ⟨rfl, rfl⟩
        · rw [if_neg h4] at ha ⊢; rw [if_neg h4]; obtain ⟨rfl, rfl, rfl⟩ := ha; exact ⟨rfl, rfl⟩
    · rw [if_neg h2] at ha ⊢; rw [if_neg h2]; obtain ⟨rfl, rfl, rfl⟩ := ha; exact ⟨rfl, rfl⟩
theorem Ap_ex (b : List UInt8) (rows : List TRow) (next : Int) : ∃ err rows' next', Ap b rows next err rows' next' := by
  unfold Ap
  split
  · split
    · exact ⟨0, _, _, rfl, ⟨.nilIface, rfl⟩, rfl⟩
    · exact ⟨2, _, _, rfl, rfl, rfl⟩
  · split
    · split
      · exact ⟨0, _, _, rfl, rfl, rfl⟩
      · split
        · exact ⟨0, _, _, rfl, rfl, rfl⟩
        · exact ⟨2, _, _, rfl, rfl, rfl⟩
    · exact ⟨2, _, _, rfl, rfl, rfl⟩
def playS (bs : List (List UInt8)) : AT := bs.foldl apS ([], 1)
theorem playS_add (bs : List (List UInt8)) (b : List UInt8) : playS (bs ++ [b]) = apS (playS bs) b := by unfold playS; rw [List.foldl_append]; rfl
def SEq (s t : AT) : Prop := s.2 = t.2 ∧ ∀ k, pget s.1 k = pget t.1 k
theorem SEq.refl (s : AT) : SEq s s := ⟨rfl, fun _ => rfl⟩
theorem SEq.symm {s t : AT} (h : SEq s t) : SEq t s := ⟨h.1.symm, fun k => (h.2 k).symm⟩
theorem SEq.trans {s t u : AT} (h : SEq s t) (h' : SEq t u) : SEq s u := ⟨h.1.trans h'.1, fun k => (h.2 k).trans (h'.2 k)⟩
abbrev Nd (s : AT) : Prop := (s.1.map Prod.fst).Nodup
theorem apS_nd {s : AT} {b : List UInt8} (h : Nd s) : Nd (apS s b) := by
  unfold apS
  split
  · split
    · exact pput_nodup h _ _
    · exact h
  · split
    · split
      · exact pdel_nodup h _
      · split
        · exact h
        · exact h
    · exact h
theorem apS_eq {s t : AT} {b : List UInt8} (hs : Nd s) (ht : Nd t) (h : SEq s t) : SEq (apS s b) (apS t b) := by
  obtain ⟨h1, h2⟩ := h; unfold apS
  split
  · split
    · exact ⟨by dsimp only; rw [h1], fun k => by dsimp only; rw [pget_put, pget_put, h2]⟩
    · exact ⟨h1, h2⟩
  · split
    · split
      · exact ⟨h1, fun k => by dsimp only; rw [pget_del hs, pget_del ht, h2]⟩
      · split
        · exact ⟨by dsimp only; rw [h1], h2⟩
        · exact ⟨h1, h2⟩
    · exact ⟨h1, h2⟩
theorem playS_nd (bs : List (List UInt8)) : Nd (playS bs) := by
  have : ∀ (bs : List (List UInt8)) (s : AT), Nd s → Nd (bs.foldl apS s) := by
    intro bs
    induction bs with
    | nil => intro s h; exact h
    | cons b r ih => intro s h; exact ih _ (apS_nd h)
  exact this bs _ List.nodup_nil
theorem TbI.of {A : List (Int × It)} {next : Int} {s : AT} (h : TbI A next) (e : SEq s (A, next)) (hn : Nd s) : TbI s.1 s.2 := by
  obtain ⟨e1, e2⟩ := e
  have hm : ∀ r ∈ s.1, r ∈ A := fun r hr => pget_mem (by rw [← e2]; exact pget_some hn (k := r.1) (u := r.2) hr)
  have e1' : s.2 = next := e1; exact ⟨hn, fun r hr => h.id r (hm r hr), fun r hr => h.ok r (hm r hr), fun r hr => by rw [e1']; exact h.lt r (hm r hr), by rw [e1']; exact h.nx, by rw [e1']; exact h.nz, fun r hr => h.hl r (hm r hr)⟩
abbrev RecOk (b : List UInt8) : Prop := apE b = 0 ∧ b.length ≤ 1000000
structure SI (bs : List (List UInt8)) (A : List (Int × It)) (next : Int) : Prop where
  ok : ∀ b ∈ bs, RecOk b
  eq : SEq (playS bs) (A, next)
theorem SI.nil : SI [] [] 1 := ⟨by simp, SEq.refl _⟩
theorem SI.add {bs : List (List UInt8)} {A : List (Int × It)} {next : Int} (h : SI bs A next) (hn : (A.map Prod.fst).Nodup) {b : List UInt8} (hb : RecOk b) : SI (bs ++ [b]) (apS (A, next) b).1 (apS (A, next) b).2 := by
  refine ⟨fun x hx => ?_, ?_⟩
  · rcases List.mem_append.1 hx with hx | hx
    · exact h.ok x hx
    · rw [List.mem_singleton.1 hx]; exact hb
  · rw [playS_add]; exact apS_eq (playS_nd bs) hn h.eq
theorem play_recs {A : List (Int × It)} {next : Int} (h : TbI A next) : playS (recsA A next) = (mkT A (keysUp A).length, next) ∧ ∀ b ∈ recsA A next, RecOk b := by
  have key : ∀ j, j ≤ (recsA A next).length → ∃ rows nx, (absT rows, nx) = playS ((recsA A next).take j) ∧ ((j = 0 ∧ rows = [] ∧ nx = 1) ∨ (1 ≤ j ∧ absT rows = mkT A (j - 1) ∧ nx = next)) ∧ ∀ i, i < j → ∀ b, (recsA A next)[i]? = some b → apE b = 0 := by
    intro j
    induction j with
    | zero => intro _; exact ⟨[], 1, rfl, .inl ⟨rfl, rfl, rfl⟩, fun i hi => by omega⟩
    | succ j ih =>
      intro hj; obtain ⟨rows, nx, e, hc, ho⟩ := ih (by omega); obtain ⟨b, hb⟩ : ∃ b, (recsA A next)[j]? = some b := ⟨_, List.getElem?_eq_getElem (by omega)⟩; obtain ⟨err, rows', nx', ha⟩ := Ap_ex b rows nx; obtain ⟨g1, g2, g3⟩ := remake_step h hb hc ha; obtain ⟨a1, a2⟩ := Ap_abs ha; refine ⟨rows', nx', ?_, .inr ⟨by omega, by rw [Nat.add_sub_cancel]; exact g2, g3⟩, fun i hi c hc2 => ?_⟩
      · rw [List.take_add_one, hb]
        show _ = playS (_ ++ [b])
        rw [playS_add, ← e, a2]
      · rcases Nat.lt_or_ge i j with h2 | h2
        · exact ho i h2 c hc2
        · obtain rfl : i = j := by omega
          rw [hb] at hc2
          cases hc2
          rw [← a1, g1]
  obtain ⟨rows, nx, e, hc, ho⟩ := key _ (Nat.le_refl _); rw [List.take_length] at e; refine ⟨?_, fun b hb => ?_⟩
  · rw [← e]; have hl := recsA_len A next
    rcases hc with ⟨h0, _⟩ | ⟨_, h1, h2⟩
    · omega
    · rw [h1, h2, keysUp_len, hl, Nat.add_sub_cancel]
  · obtain ⟨i, hi⟩ := List.getElem?_of_mem hb; exact ⟨ho i (List.getElem?_eq_some_iff.1 hi).1 b hi, recsA_bound h hi⟩
theorem mkT_seq {A : List (Int × It)} {next : Int} (h : TbI A next) : SEq (mkT A (keysUp A).length, next) (A, next) := ⟨rfl, fun k => mkT_get h.nd k⟩
theorem mkT_nd {A : List (Int × It)} {next : Int} (h : TbI A next) : Nd (mkT A (keysUp A).length, next) := by
  show ((mkT A (keysUp A).length).map Prod.fst).Nodup
  rw [mkT_keys]; exact (List.mergeSort_perm _ _).nodup_iff.2 h.nd
theorem SI.recs {A : List (Int × It)} {next : Int} (h : TbI A next) : SI (recsA A next) A next := ⟨(play_recs h).2, by rw [(play_recs h).1]; exact mkT_seq h⟩
theorem SI.to {bs : List (List UInt8)} {A : List (Int × It)} {next : Int} (h : SI bs A next) {t : AT} (e : SEq (A, next) t) : SI bs t.1 t.2 := ⟨h.ok, h.eq.trans e⟩
def turnA (A : List (Int × It)) (next : Int) (b : List UInt8) : AT := apS (mkT A (keysUp A).length, next) b
theorem turn_seq {A : List (Int × It)} {next : Int} (h : TbI A next) (b : List UInt8) : SEq (turnA A next b) (apS (A, next) b) ∧ Nd (turnA A next b) := ⟨apS_eq (mkT_nd h) h.nd (mkT_seq h), apS_nd (mkT_nd h)⟩
theorem turn_ok {A : List (Int × It)} {next : Int} (h : TbI A next) {b : List UInt8} (h2 : TbI (apS (A, next) b).1 (apS (A, next) b).2) : TbI (turnA A next b).1 (turnA A next b).2 ∧ SI (recsA (turnA A next b).1 (turnA A next b).2) (apS (A, next) b).1 (apS (A, next) b).2 := by
  obtain ⟨e, hn⟩ := turn_seq h b; have h3 := h2.of (s := turnA A next b) e hn; exact ⟨h3, (SI.recs h3).to e⟩
theorem keys_le {A : List (Int × It)} (hn : (A.map Prod.fst).Nodup) {m : Nat} (hk : ∀ r ∈ A, 1 ≤ r.1 ∧ r.1 ≤ (m : Int)) : A.length ≤ m := by
  have h := up_len (keysUp A) 1 m (keysUp_lt hn) (fun x hx => by
    rw [keysUp_mem] at hx; obtain ⟨r, hr, rfl⟩ := List.mem_map.1 hx
    exact hk r hr)
  rw [keysUp_len] at h; omega
theorem needS_map {A : List (Int × It)} {next : Int} {m : Nat} (h1 : needN (encA [.txt nextS, .num next]).length ≤ 1) (h : ∀ r ∈ A, needN (recB r.2).length ≤ m) (hn : (A.map Prod.fst).Nodup) : needS (recsA A next) ≤ 1 + A.length * m := by
  unfold recsA; rw [needS_cons]
  have key : ∀ (l : List Int), (∀ k ∈ l, k ∈ A.map Prod.fst) → needS (l.map fun k => recB (itA A k)) ≤ l.length * m := by
    intro l
    induction l with
    | nil => intro _; simp [needS]
    | cons k r ih =>
      intro hl; rw [List.map_cons, needS_cons, List.length_cons]; have h2 := ih (fun x hx => hl x (List.mem_cons_of_mem _ hx)); have hk := hl k (List.mem_cons_self ..)
      obtain ⟨it, hit⟩ : ∃ it, pget A k = some it := by
        cases h3 : pget A k with
        | none => exact absurd hk (pget_none.1 h3)
        | some it => exact ⟨it, rfl⟩
      have h4 := h _ (pget_mem hit)
      have h5 : itA A k = it := by unfold itA; rw [hit]; rfl
      rw [h5]; dsimp only at h4; rw [Nat.add_mul]; omega
  have := key (keysUp A) (fun k hk => (keysUp_mem A k).1 hk); rw [keysUp_len] at this; omega
theorem drop_rec {n : Int} (hn : i64ok n) : RecOk (encA [.txt dropS, .num n]) ∧ ∀ s, apS s (encA [.txt dropS, .num n]) = (pdel s.1 n, s.2) := by
  have hd := decA_encA (Nat.le_refl 255) (two_good (t := dropS) (by decide) hn); have hw : wordOf [.txt dropS, .num n] = dropL := wordOf_txt dropL _; refine ⟨⟨?_, Nat.le_trans (encA_le (two_ok (by decide) hn)) (by show 2 * 257 ≤ 1000000; decide)⟩, fun s => ?_⟩
  · unfold apE; rw [hd, Option.getD_some, hw, if_neg (by decide), at_1, if_pos ⟨rfl, rfl⟩, if_pos rfl]
  · unfold apS; rw [hd, Option.getD_some, hw, if_neg (by decide), at_1, if_pos ⟨rfl, rfl⟩, if_pos rfl]
    rfl
theorem put_rec {it : It} (hok : ItOk it) (ho : encOk (itAV it) = true) : apE (recB it) = 0 ∧ ∀ s, apS s (recB it) = (pput s.1 it.id it, nextR s.2 it.id) := by
  have hd := decA_rec it; have hw : wordOf (recAV (encA (itAV it)) (ckCnt (encA (itAV it)).length)) = putL := wordOf_txt putL _; have hp := putOk_rec hok ho; refine ⟨?_, fun s => ?_⟩
  · unfold apE; rw [hd, Option.getD_some, if_pos hw, hp]
    rfl
  · unfold apS; rw [hd, Option.getD_some, if_pos hw, hp]
end Go.Proofs.YtadgbifmiooikaaGreatX
