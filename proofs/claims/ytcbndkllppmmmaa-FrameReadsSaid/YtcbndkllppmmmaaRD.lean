/- A record with one sector spoilt is none: in plain words. Own lemmas, no program in sight. -/
import Derived.Test.YtcbndkllppmmmaaRC
namespace Go.Proofs.YtcbndkllppmmmaaX
set_option linter.unusedVariables false
set_option linter.unusedSimpArgs false
open Go Go.RowKit

/-- Sectors of a record, of which one is another one. -/
structure Spoilt (S : DS) (a : Int) (b s' : List UInt8) (k0 : Nat) : Prop where
  up : S.down = false
  size : S.secs.length = 12
  lo : 0 ≤ a
  hi : a ≤ 3
  few : needN b.length ≤ 6
  here : k0 < needN b.length
  others : ∀ j, j < needN b.length → j ≠ k0 → readR S (a + (j : Int)) = secB 3 7 b j
  this : readR S (a + (k0 : Int)) = s'
  behind : readR S (a + (needN b.length : Nat)) = zr32
theorem Spoilt.o {S : DS} {a : Int} {b s' : List UInt8} {k0 : Nat} (h : Spoilt S a b s' k0) {j : Nat} (hj : j < needN b.length) (hne : j ≠ k0) : oAt S a j = ⟨3, 7, (j : Int), (needN b.length : Nat), partB b j, 0⟩ := by
  unfold oAt
  rw [h.others j hj hne]
  exact secB_open (by decide) (by have := h.few; omega) hj
theorem Spoilt.end {S : DS} {a : Int} {b s' : List UInt8} {k0 : Nat} (h : Spoilt S a b s' k0) : (oAt S a (needN b.length)).err = 2 := by
  unfold oAt
  rw [h.behind]
  rfl
theorem Spoilt.me {S : DS} {a : Int} {b s' : List UInt8} {k0 : Nat} (h : Spoilt S a b s' k0) (he : (oAt S a k0).err = 0) : openOk s' = true ∧ oAt S a k0 = ⟨epochOf s', seqOf s', bat s' 5, bat s' 6, bodyOf s', 0⟩ := by
  unfold oAt at he ⊢
  rw [h.this] at he ⊢
  rw [openR_err] at he
  by_cases ho : openOk s' = true
  · exact ⟨ho, openR_ok ho⟩
  · rw [if_neg ho] at he; cases he
def BadS (b s' : List UInt8) (k0 : Nat) : Prop := openOk s' = false ∨ bat s' 5 ≠ k0 ∨ bat s' 6 ≠ (needN b.length : Nat) ∨ (needN b.length ≠ 1 ∧ ¬ (epochOf s' = 3 ∧ seqOf s' = 7))
theorem gather_bad {S : DS} {a : Int} {b s' : List UInt8} {k0 : Nat} (h : Spoilt S a b s' k0) (hb : BadS b s' k0) {ge gq parts ger : Int} {gb : List UInt8} (hg : GatherR S a 12 ge gq gb parts ger) :
    ger = 2 ∨ (k0 = 0 ∧ 1 < needN b.length ∧ bat s' 6 = 1 ∧ openOk s' = true ∧ gb = bodyOf s' ∧ parts = 1 ∧ ger = 0) := by
  have hn := need_room b.length
  have hfew := h.few
  have hhere := h.here
  rcases hg with ⟨h1, _⟩ | ⟨_, ⟨n, h1, h2, h3, _, _, h6, h7, h8⟩ | ⟨k, _, _, _, _, _, _, _, h8⟩⟩
  · rw [h.up] at h1; cases h1
  · by_cases hk : k0 = 0
    · subst hk
      obtain ⟨ho, e0⟩ := h.me (h3 0 (by omega)).2.1
      have h02 := (h3 0 (by omega)).2.2.2.1
      rw [e0] at h2 h02
      dsimp only at h2 h02
      by_cases h61 : 1 < needN b.length ∧ n = 1
      · obtain ⟨hN, rfl⟩ := h61
        refine .inr ⟨rfl, hN, h2, ho, ?_, h7, h8⟩
        rw [h6]
        show [] ++ (oAt S a 0).b = _
        rw [e0]
        rfl
      · exfalso
        rcases hb with hb | hb | hb | ⟨hb, hm⟩
        · rw [hb] at ho; cases ho
        · exact hb (by rw [h02])
        · by_cases hN : needN b.length = 1
          · have := (h3 1 (by omega)).2.1
            rw [← hN, h.end] at this
            cases this
          · have := (h3 1 (by omega)).2.2.2.2.1
            rw [h.o (by omega) (by decide), e0] at this
            exact hb this.symm
        · have h13 := (h3 1 (by omega)).2.2.1
          rw [h.o (by omega) (by decide), e0] at h13
          simp only [List.cons.injEq, and_true] at h13
          exact hm ⟨h13.1.symm, h13.2.symm⟩
    · exfalso
      have e0 := h.o (j := 0) (by omega) (by omega)
      rw [e0] at h2
      dsimp only at h2
      have hok := (h3 k0 (by omega)).2
      obtain ⟨ho, ek⟩ := h.me hok.1
      obtain ⟨_, p2, p3, p4, _⟩ := hok
      rw [ek, e0] at p2 p4
      rw [ek] at p3
      dsimp only at p3 p4
      simp only [List.cons.injEq, and_true] at p2
      rcases hb with hb | hb | hb | ⟨hb, hm⟩
      · rw [hb] at ho; cases ho
      · exact hb p3
      · exact hb p4
      · exact hm p2
  · exact .inl h8
theorem readEnd_err {at_ ge gq parts : Int} {gb : List UInt8} : readEnd at_ ge gq gb parts 2 = (0, 0, [], 0, 2) := by
  unfold readEnd
  rw [if_pos (by decide)]
theorem readEnd_no {at_ ge gq parts : Int} {gb : List UInt8} (h : wholeB (gb.drop 4) ≠ gb) : readEnd at_ ge gq gb parts 0 = (0, 0, [], 0, 2) := by
  unfold readEnd
  rw [if_neg (by decide), if_pos (.inr (.inr h))]
/-- With a sector that says another thing it is none. -/
theorem reads_bad {S : DS} {a : Int} {b s' : List UInt8} {k0 : Nat} (h : Spoilt S a b s' k0) (hb : BadS b s' k0) (hco : k0 = 0 → 1 < needN b.length → bat s' 6 = 1 → openOk s' = true → bodyOf s' = partB b 0 ∧ sumN (b.take 15) ≠ sumN b)
    {r : Int × Int × List UInt8 × Int × Int} (hr : FrR S a 12 r) : r = (0, 0, [], 0, 2) := by
  have h1 := h.lo
  have h2 := h.hi
  unfold FrR at hr
  rw [if_neg (by rw [h.size]; omega)] at hr
  obtain ⟨ge, gq, gb, parts, ger, hg, rfl⟩ := hr
  rcases gather_bad h hb hg with rfl | ⟨h3, h4, h5, h6, rfl, rfl, rfl⟩
  · exact readEnd_err
  · obtain ⟨h7, h8⟩ := hco h3 h4 h5 h6
    apply readEnd_no
    rw [h7]
    have hn := need_room b.length
    have e : partB b 0 = sumB b ++ b.take 15 := by
      unfold partB wholeB
      rw [Nat.mul_zero, List.drop_zero, List.take_append, show (sumB b).length = 4 from rfl, List.take_of_length_le (by show 4 ≤ 19; decide)]
    rw [e]
    intro hw
    have e2 : (sumB b ++ b.take 15).drop 4 = b.take 15 := rfl
    rw [e2] at hw
    exact h8 (sumB_inj (congrArg (List.take 4) hw))
/-- A record's parts, with one byte another one. -/
theorem part_other {W : List UInt8} {p j k : Nat} {c : UInt8} (hk : 19 * k ≤ p ∧ p < 19 * k + 19) (hne : j ≠ k) : ((W.set p c).drop (19 * j)).take 19 = (W.drop (19 * j)).take 19 := by
  rw [List.drop_set]
  by_cases h : p < 19 * j
  · rw [if_pos h]
  · rw [if_neg h, List.take_set, List.set_eq_of_length_le]
    rw [List.length_take]
    omega
theorem part_this {W : List UInt8} {p k : Nat} {c : UInt8} (hk : 19 * k ≤ p) : ((W.set p c).drop (19 * k)).take 19 = ((W.drop (19 * k)).take 19).set (p - 19 * k) c := by
  rw [List.drop_set, if_neg (by omega), List.take_set]
/-- With one byte of a part turned it is none. -/
theorem reads_turned {S : DS} {a : Int} {b : List UInt8} {k0 i : Nat} {c : UInt8} (h : Spoilt S a b (sealB 3 7 (k0 : Int) (needN b.length : Nat) ((partB b k0).set i c)) k0) (hi : i < (partB b k0).length) (hc : c ≠ (partB b k0).getD i 0)
    {r : Int × Int × List UInt8 × Int × Int} (hr : FrR S a 12 r) : r = (0, 0, [], 0, 2) := by
  have h1 := h.lo
  have h2 := h.hi
  have hn := need_room b.length
  have hfew := h.few
  have hhere := h.here
  have hpl := partB_len b k0
  have hpos : 19 * k0 + i < (wholeB b).length := by
    unfold partB at hi
    rw [List.length_take, List.length_drop] at hi
    omega
  have hget : (partB b k0).getD i 0 = (wholeB b).getD (19 * k0 + i) 0 := by
    unfold partB
    rw [List.getD_eq_getElem?_getD, List.getD_eq_getElem?_getD, List.getElem?_take, if_pos (by omega), List.getElem?_drop]
  have ho : ∀ j, j < needN b.length → oAt S a j = ⟨3, 7, (j : Int), (needN b.length : Nat), (((wholeB b).set (19 * k0 + i) c).drop (19 * j)).take 19, 0⟩ := by
    intro j hj
    by_cases hne : j = k0
    · subst hne
      rw [part_this (by omega), show 19 * j + i - 19 * j = i by omega]
      unfold oAt
      rw [h.this]
      refine openR_sealB (sealM_of (by decide) (by decide) ⟨by omega, by omega, by omega⟩ ?_)
      rw [List.length_set]
      exact hpl
    · rw [part_other (k := k0) (by omega) hne, h.o hj hne]
      rfl
  unfold FrR at hr
  rw [if_neg (by rw [h.size]; omega)] at hr
  obtain ⟨ge, gq, gb, parts, ger, hg, rfl⟩ := hr
  rcases hg with ⟨h3, _⟩ | ⟨_, ⟨n, h3, h4, h5, _, _, h6, h7, h8⟩ | ⟨k, _, _, _, _, _, _, _, h8⟩⟩
  · rw [h.up] at h3; cases h3
  · have e0 := ho 0 (by omega)
    rw [e0] at h4
    dsimp only at h4
    obtain rfl : n = needN b.length := by omega
    have hgb : ∀ m, m ≤ needN b.length → gB S a m = ((wholeB b).set (19 * k0 + i) c).take (19 * m) := by
      intro m
      induction m with
      | zero => intro _; simp [gB]
      | succ m ih =>
        intro hm
        show gB S a m ++ (oAt S a m).b = _
        rw [ih (by omega), ho m (by omega)]
        show List.take (19 * m) _ ++ List.take 19 _ = _
        rw [Nat.mul_add, List.take_add]
    have hall : gb = (wholeB b).set (19 * k0 + i) c := by
      rw [h6, hgb _ (Nat.le_refl _), List.take_of_length_le (by rw [List.length_set, wholeB_len]; omega)]
    rw [h8, hall]
    exact readEnd_no (whole_set_ne hpos (by rw [← hget]; exact hc))
  · rw [h8]
    exact readEnd_err
/-- A sector of which one byte is turned. -/
theorem turned {e q p n : Int} {b : List UInt8} (hm : sealM e q p n b = true) {i : Nat} (hi : i < 32) (h7 : i ≠ 7) {c : UInt8} (hc : c ≠ (sealB e q p n b).getD i 0) :
    openOk ((sealB e q p n b).set i c) = false ∨ bat ((sealB e q p n b).set i c) 5 ≠ p ∨ (i = 6 ∧ bat ((sealB e q p n b).set i c) 6 ≠ n ∧ bodyOf ((sealB e q p n b).set i c) = b) ∨
    (8 ≤ i ∧ i - 8 < b.length ∧ c ≠ b.getD (i - 8) 0 ∧ (sealB e q p n b).set i c = sealB e q p n (b.set (i - 8) c)) := by
  obtain ⟨o1, o2, o3, o4, o5, o6⟩ := sealB_open hm
  have hp := sealM_parts hm
  have hl : (sealB e q p n b).length = 32 := sealB_length hp.2.2.2.2.2
  have htail : (sealB e q p n b).drop 27 = three q ++ two e := sealB_tail hp.2.2.2.2.2
  have hhead : (sealB e q p n b).take 5 = two e ++ three q := sealB_head _ _ _ _ _
  generalize hx : sealB e q p n b = x at *
  have hbat : ∀ j : Nat, j ≠ i → bat (x.set i c) (j : Int) = bat x (j : Int) := by
    intro j hj
    unfold bat
    rw [Int.toNat_natCast, getD_set, if_neg (fun h => hj h.1.symm)]
  have hbati : bat (x.set i c) (i : Int) ≠ bat x (i : Int) := by
    unfold bat
    rw [Int.toNat_natCast, getD_set, if_pos ⟨rfl, by omega⟩]
    intro h
    exact hc (UInt8.toNat_inj.1 (by omega))
  have hdiff : x.set i c ≠ x := by
    intro h
    exact hbati (by rw [h])
  cases ho : openOk (x.set i c) with
  | false => exact .inl rfl
  | true =>
    obtain ⟨_, q2, q3, q4⟩ := openOk_parts ho
    have hbody : 8 ≤ i → bodyOf (x.set i c) = b.set (i - 8) c := by
      intro h8
      have h : bat (x.set i c) 7 = bat x 7 := hbat 7 (by omega)
      rw [bat_N, bat_N] at h
      unfold bodyOf
      rw [show batN (x.set i c) 7 = batN x 7 by omega, List.drop_set, if_neg (by omega), List.take_set, show (x.drop 8).take (batN x 7) = b from o6]
    by_cases h5 : i < 5
    · exfalso
      obtain ⟨u, v, hu, hv, g1, g2⟩ := openOk_ends ho
      have e2 : (x.set i c).drop 27 = x.drop 27 := by rw [List.drop_set, if_pos (by omega)]
      rw [e2, htail] at g2
      obtain ⟨rfl, rfl⟩ := List.append_inj g2 (by rw [three_length, hv])
      have e1 : (x.set i c).take 5 = x.take 5 := by rw [g1, hhead]
      have : (x.set i c).getD i 0 = x.getD i 0 := by
        have := congrArg (fun l => l.getD i 0) e1
        simp only [List.getD_eq_getElem?_getD, List.getElem?_take, if_pos h5] at this
        rw [List.getD_eq_getElem?_getD, List.getD_eq_getElem?_getD]
        exact this
      rw [getD_set, if_pos ⟨rfl, by omega⟩] at this
      exact hc this
    by_cases h27 : 27 ≤ i
    · exfalso
      obtain ⟨u, v, hu, hv, g1, g2⟩ := openOk_ends ho
      have e1 : (x.set i c).take 5 = x.take 5 := by rw [List.take_set, List.set_eq_of_length_le (l := x.take 5) (by rw [List.length_take]; omega)]
      rw [e1, hhead] at g1
      obtain ⟨rfl, rfl⟩ := List.append_inj g1 (by rw [two_length, hu])
      have e2 : (x.set i c).drop 27 = x.drop 27 := by rw [g2, htail]
      have e3 : x.set i c = x := by
        rw [← List.take_append_drop 27 (x.set i c), e2, List.take_set, List.set_eq_of_length_le (l := x.take 27) (by rw [List.length_take]; omega), List.take_append_drop]
      exact hdiff e3
    by_cases hi5 : i = 5
    · subst hi5
      exact .inr (.inl (by rw [← o3]; exact hbati))
    by_cases hi6 : i = 6
    · subst hi6
      refine .inr (.inr (.inl ⟨rfl, by rw [← o4]; exact hbati, ?_⟩))
      have h : bat (x.set 6 c) 7 = bat x 7 := hbat 7 (by decide)
      rw [bat_N, bat_N] at h
      unfold bodyOf
      rw [show batN (x.set 6 c) 7 = batN x 7 by omega, List.drop_set, if_pos (by decide)]
      exact o6
    · have he : epochOf (x.set i c) = e := by
        rw [← o1]
        unfold epochOf
        rw [show (0 : Int) = ((0 : Nat) : Int) from rfl, show (1 : Int) = ((1 : Nat) : Int) from rfl, hbat 0 (by omega), hbat 1 (by omega)]
      have hq : seqOf (x.set i c) = q := by
        rw [← o2]
        unfold seqOf
        rw [show (2 : Int) = ((2 : Nat) : Int) from rfl, show (3 : Int) = ((3 : Nat) : Int) from rfl, show (4 : Int) = ((4 : Nat) : Int) from rfl, hbat 2 (by omega), hbat 3 (by omega), hbat 4 (by omega)]
      have hpp : bat (x.set i c) 5 = p := by rw [← o3]; exact hbat 5 (by omega)
      have hnn : bat (x.set i c) 6 = n := by rw [← o4]; exact hbat 6 (by omega)
      rw [he, hq, hpp, hnn, hbody (by omega)] at q4
      by_cases hin : i - 8 < b.length
      · refine .inr (.inr (.inr ⟨by omega, hin, ?_, q4.symm⟩))
        have hb0 : b.getD (i - 8) 0 = x.getD i 0 := by
          rw [← o6]
          unfold bodyOf
          have hl7 : (bodyOf x).length = b.length := by rw [o6]
          unfold bodyOf at hl7
          rw [List.length_take] at hl7
          rw [List.getD_eq_getElem?_getD, List.getD_eq_getElem?_getD, List.getElem?_take, if_pos (by omega), List.getElem?_drop, show 8 + (i - 8) = i by omega]
        rw [hb0]
        exact hc
      · exfalso
        rw [List.set_eq_of_length_le (by omega), hx] at q4
        exact hdiff q4.symm
end Go.Proofs.YtcbndkllppmmmaaX
