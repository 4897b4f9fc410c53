/- Any three numbers that may be a span are told again; others are none. -/
import Derived.Test.YtjlkidokkaibiaaDoorT
import Derived.Test.YtjlkidokkaibiaaDoorJ10
import Derived.Test.YtjlkidokkaibiaaDoorXT
namespace Go.Proofs.YtjlkidokkaibiaaDoorX
set_option linter.unusedVariables false
set_option linter.unusedSimpArgs false
open Go Go.RowKit Go.Proofs

theorem dec_digit (k : Nat) (h : k < 10) : (UInt8.ofNat (48 + k)).toNat = 48 + k := by
  rw [UInt8.toNat_ofNat']
  omega
theorem dd_all : ∀ (n : Nat), (Lib.decDigits n).all isDigit = true
  | n => by
    unfold Lib.decDigits
    by_cases h : n < 10
    · rw [dif_pos h]
      simp only [List.all_cons, List.all_nil, Bool.and_true]
      unfold isDigit
      rw [dec_digit n h]
      simp
      omega
    · rw [dif_neg h, List.all_append, dd_all (n / 10)]
      simp only [List.all_cons, List.all_nil, Bool.and_true, Bool.true_and]
      unfold isDigit
      rw [dec_digit _ (Nat.mod_lt _ (by decide))]
      simp
      omega
termination_by n => n
theorem dd_val : ∀ (n : Nat), (Lib.decDigits n).foldl digStep 0 = (n : Int)
  | n => by
    unfold Lib.decDigits
    by_cases h : n < 10
    · rw [dif_pos h]
      show digStep 0 _ = _
      unfold digStep
      rw [dec_digit n h]
      omega
    · rw [dif_neg h, List.foldl_append, dd_val (n / 10)]
      show digStep _ _ = _
      unfold digStep
      rw [dec_digit _ (Nat.mod_lt _ (by decide))]
      omega
termination_by n => n
theorem dd_pos (n : Nat) : 1 ≤ (Lib.decDigits n).length := by
  unfold Lib.decDigits
  split <;> simp
theorem dd_le : ∀ (f n : Nat), n < 10 ^ (f + 1) → (Lib.decDigits n).length ≤ f + 1
  | 0, n, h => by
    unfold Lib.decDigits
    rw [dif_pos (by simpa using h)]
    simp
  | f + 1, n, h => by
    unfold Lib.decDigits
    split
    · simp
    · have := dd_le f (n / 10) (by rw [Nat.pow_succ] at h; omega)
      simp; omega
theorem dd_ge : ∀ (f n : Nat), 10 ^ f ≤ n → f + 1 ≤ (Lib.decDigits n).length
  | 0, n, h => dd_pos n
  | f + 1, n, h => by
    have h10 : 10 ≤ 10 ^ (f + 1) := by rw [Nat.pow_succ]; have := (Nat.pow_pos (by decide) : 0 < 10 ^ f); omega
    unfold Lib.decDigits
    rw [dif_neg (by omega)]
    have := dd_ge f (n / 10) (by rw [Nat.pow_succ] at h; omega)
    simp; omega
theorem number_dd (n : Nat) : numberR (Lib.decDigits n) = if n < 1000000 then some (n : Int) else none := by
  unfold numberR
  have h1 := dd_pos n
  by_cases h : n < 1000000
  · have h2 := dd_le 5 n (by omega)
    rw [if_neg (by omega), if_pos (dd_all n), dd_val, if_pos h]
  · have h2 := dd_ge 6 n (by omega)
    rw [if_pos (by omega), if_neg h]
theorem dd_no (n : Nat) (c : UInt8) (hc : isDigit c = false) : c ∉ Lib.decDigits n := by
  intro h
  have := List.all_eq_true.1 (dd_all n) c h
  rw [hc] at this
  cases this
def spanT (a b c : Int) : ByteArray := bytesS ++ strOf (Lib.decDigits a.toNat) ++ ⟨#[45]⟩ ++ strOf (Lib.decDigits b.toNat) ++ ⟨#[47]⟩ ++ strOf (Lib.decDigits c.toNat)
theorem toList_append' (a b : ByteArray) : (a ++ b).toList = a.toList ++ b.toList := by
  rw [ByteArray.toList_eq, ByteArray.toList_eq, ByteArray.toList_eq, ByteArray.data_append, Array.toList_append]
theorem spanT_list (a b c : Int) : (spanT a b c).toList = [98, 121, 116, 101, 115, 32] ++ (Lib.decDigits a.toNat ++ 45 :: (Lib.decDigits b.toNat ++ 47 :: Lib.decDigits c.toNat)) := by
  unfold spanT
  rw [toList_append', toList_append', toList_append', toList_append', toList_append', strOf_toList, strOf_toList, strOf_toList]
  rw [show (ByteArray.mk #[45]).toList = [45] from oneS_list 45, show (ByteArray.mk #[47]).toList = [47] from oneS_list 47, show bytesS.toList = [98, 121, 116, 101, 115, 32] by rw [ByteArray.toList_eq]; rfl]
  simp
theorem spanT_law (a b c : Int) (ha : 0 ≤ a) (hb : 0 ≤ b) (hc : 0 ≤ c) : spanR (spanT a b c) = if a ≤ b ∧ b < c ∧ c < 1000000 then (a, b, c, true) else Z3 := by
  rw [← span_law]
  have hl := spanT_list a b c
  have hp : preS (spanT a b c) bytesS = true := by
    unfold preS
    have hz := size_toList (spanT a b c)
    rw [hl, List.length_append] at hz
    rw [extract_list, hl]
    have h6 : bytesS.size = 6 := rfl
    rw [h6, decide_eq_true (show ((6 : Nat) : Int) ≤ ((spanT a b c).size : Int) by simp at hz; omega)]
    rw [List.drop_zero, Nat.sub_zero, show bytesS.toList = [98, 121, 116, 101, 115, 32] by rw [ByteArray.toList_eq]; rfl]
    rfl
  unfold refSpanR
  have hd : ∀ X : List UInt8, List.drop 6 ([98, 121, 116, 101, 115, 32] ++ X) = X := fun _ => rfl
  rw [if_pos hp, hl, hd]
  dsimp only
  rw [until1_at (dd_no _ 45 (by decide))]
  dsimp only
  rw [if_neg (by simp), List.drop_succ_cons, List.drop_zero, until1_at (dd_no _ 47 (by decide))]
  dsimp only
  rw [if_neg (by simp), List.drop_succ_cons, List.drop_zero, number_dd, number_dd, number_dd]
  unfold span3
  by_cases h : a ≤ b ∧ b < c ∧ c < 1000000
  · rw [if_pos h, if_pos (show a.toNat < 1000000 by omega), if_pos (show b.toNat < 1000000 by omega), if_pos (show c.toNat < 1000000 by omega)]
    simp only [Option.isSome_some, Option.getD_some, true_and]
    rw [if_pos (by omega), Int.toNat_of_nonneg ha, Int.toNat_of_nonneg hb, Int.toNat_of_nonneg hc]
  · rw [if_neg h, if_neg]
    rintro ⟨h1, h2, h3, h4, h5⟩
    have g : ∀ x : Int, 0 ≤ x → (if x.toNat < 1000000 then some ((x.toNat : Nat) : Int) else none).isSome = true → x < 1000000 ∧ (if x.toNat < 1000000 then some ((x.toNat : Nat) : Int) else none).getD 0 = x := fun x hx hs => by
      by_cases hh : x.toNat < 1000000
      · rw [if_pos hh]; exact ⟨by omega, by simp; omega⟩
      · rw [if_neg hh] at hs; cases hs
    obtain ⟨a1, a2⟩ := g a ha h1
    obtain ⟨b1, b2⟩ := g b hb h2
    obtain ⟨c1, c2⟩ := g c hc h3
    rw [a2, b2] at h4
    rw [b2, c2] at h5
    exact h ⟨h4, h5, c1⟩
set_option maxRecDepth 100000 in
set_option maxHeartbeats 1000000 in
theorem pspans_spec {w0 w : World} {I : Imm} {L : Own} (hst : St w0 w I L) (hT : TabK I) (a0 b0 c0 : Int) (ha : i64ok a0) (hb : i64ok b0) (hc : i64ok c0) :
    Calls Tryd.prog 4 #[.int .i64 a0, .int .i64 b0, .int .i64 c0] w fun e w' => e = .returned (.bool true) ∧ ∃ I', I.le I' ∧ St w0 w' I' L := by
  refine enter Tryd.func4 rfl (N := 104) rfl rfl ?_
  simp only [List.zipIdx_cons, List.zipIdx_nil, List.map_cons, List.map_nil, Nat.zero_add, Nat.reduceAdd]
  have hle := Imm.le.refl I
  refine CW.seq ?_
  -- region 0
  refine CW.region ?_
  refine RW.op1 rfl (runs_assign rfl) ?_
  refine RW.done ?_
  refine AQ.next ?_
  refine CW.seq ?_
  -- region 1
  refine CW.region ?_
  refine RW.op1 rfl (runs_assign rfl) ?_
  refine RW.done ?_
  refine AQ.next ?_
  refine CW.seq ?_
  -- region 2
  refine CW.region ?_
  refine RW.op1 rfl (runs_move rfl) ?_
  refine RW.op1 rfl (runs_move rfl) ?_
  refine RW.call rfl call9 rfl rfl (within_spec hst (v := a0) (n := 1200000) (ha) (by unfold i64ok; decide)) ?_
  rintro e w ⟨rfl, hstn⟩
  clear hst
  have hst := hstn
  clear hstn
  have hwa := within_range (a0) 1200000
  have hxa := hwa.2 (by decide)
  generalize within (a0) 1200000 = a1 at *
  refine ⟨_, rfl, ?_⟩
  refine RW.op1 rfl (runs_move rfl) ?_
  refine RW.op1 rfl (runs_move rfl) ?_
  refine RW.call rfl call9 rfl rfl (within_spec hst (v := b0) (n := 1200000) (hb) (by unfold i64ok; decide)) ?_
  rintro e w ⟨rfl, hstn⟩
  clear hst
  have hst := hstn
  clear hstn
  have hwb := within_range (b0) 1200000
  have hxb := hwb.2 (by decide)
  generalize within (b0) 1200000 = b1 at *
  refine ⟨_, rfl, ?_⟩
  refine RW.op1 rfl (runs_move rfl) ?_
  refine RW.op1 rfl (runs_move rfl) ?_
  refine RW.call rfl call9 rfl rfl (within_spec hst (v := c0) (n := 1200000) (hc) (by unfold i64ok; decide)) ?_
  rintro e w ⟨rfl, hstn⟩
  clear hst
  have hst := hstn
  clear hstn
  have hwc := within_range (c0) 1200000
  have hxc := hwc.2 (by decide)
  generalize within (c0) 1200000 = c1 at *
  refine ⟨_, rfl, ?_⟩
  refine RW.op1 rfl (runs_assign rfl) ?_
  refine RW.op1 rfl (runs_assign rfl) ?_
  refine RW.op1 rfl (runs_assign rfl) ?_
  refine RW.done ?_
  refine AQ.next ?_
  refine CW.seq ?_
  refine CW.seq ?_
  -- region 3
  refine CW.region ?_
  refine RW.op1 rfl (runs_move rfl) ?_
  refine RW.op1 rfl (runs_rem rfl rfl (by decide)) ?_
  refine RW.op1 rfl (runs_eqI rfl rfl) ?_
  refine RW.done ?_
  refine AQ.next ?_
  refine CW.cut (Int × Int × Int) (fun x w => St w0 w I L ∧ (0 ≤ x.1 ∧ x.1 < 1200000) ∧ (0 ≤ x.2.1 ∧ x.2.1 < 1200000) ∧ (0 ≤ x.2.2 ∧ x.2.2 < 1200000)) (fun x => [(0, .int .i64 x.1), (1, .int .i64 x.2.1), (2, .int .i64 x.2.2)]) ?_ ?_
  · refine CW.cond rfl (fun hc24 => ?_) (fun hc24 => ?_)
    · have hcb24 := hc24
      try simp only [decide_eq_true_eq, decide_eq_false_iff_not] at hc24
      -- region 4
      refine CW.region ?_
      refine RW.op1 rfl (runs_move rfl) ?_
      refine RW.op1 rfl (runs_move rfl) ?_
      refine RW.call rfl call9 rfl rfl (within_spec hst (v := a1) (n := 12) (by unfold i64ok; omega) (by unfold i64ok; decide)) ?_
      rintro e w ⟨rfl, hstn⟩
      clear hst
      have hst := hstn
      clear hstn
      have hwd := within_range (a1) 12
      have hxd := hwd.2 (by decide)
      generalize within (a1) 12 = a2 at *
      refine ⟨_, rfl, ?_⟩
      refine RW.op1 rfl (runs_move rfl) ?_
      refine RW.op1 rfl (runs_move rfl) ?_
      refine RW.call rfl call9 rfl rfl (within_spec hst (v := b1) (n := 12) (by unfold i64ok; omega) (by unfold i64ok; decide)) ?_
      rintro e w ⟨rfl, hstn⟩
      clear hst
      have hst := hstn
      clear hstn
      have hwe := within_range (b1) 12
      have hxe := hwe.2 (by decide)
      generalize within (b1) 12 = b2 at *
      refine ⟨_, rfl, ?_⟩
      refine RW.op1 rfl (runs_move rfl) ?_
      refine RW.op1 rfl (runs_move rfl) ?_
      refine RW.op1 rfl (runs_quo rfl rfl (by decide)) ?_
      refine RW.call rfl call9 rfl rfl (within_spec hst (v := (IntKind.i64.wrap (c1.tdiv 3))) (n := 12) (wrap_ok _) (by unfold i64ok; decide)) ?_
      rintro e w ⟨rfl, hstn⟩
      clear hst
      have hst := hstn
      clear hstn
      have hwf := within_range ((IntKind.i64.wrap (c1.tdiv 3))) 12
      have hxf := hwf.2 (by decide)
      generalize within ((IntKind.i64.wrap (c1.tdiv 3))) 12 = c2 at *
      refine ⟨_, rfl, ?_⟩
      refine RW.op1 rfl (runs_assign rfl) ?_
      refine RW.op1 rfl (runs_assign rfl) ?_
      refine RW.op1 rfl (runs_assign rfl) ?_
      refine RW.done ?_
      exact AQ.meet (_, _, _) ⟨hst, by dsimp only; omega, by dsimp only; omega, by dsimp only; omega⟩ ⟨rfl, rfl, rfl, trivial⟩
    · have hcb24 := hc24
      try simp only [decide_eq_true_eq, decide_eq_false_iff_not] at hc24
      refine CW.skip ?_
      exact AQ.meet (_, _, _) ⟨hst, by dsimp only; omega, by dsimp only; omega, by dsimp only; omega⟩ ⟨rfl, rfl, rfl, trivial⟩
  · rintro ⟨a, b, c⟩ w ⟨hstn, hA, hB, hC⟩
    dsimp only at hstn hA hB hC ⊢
    clear hst
    have hst := hstn
    clear hstn
    have la := digits_len 7 a.toNat (by omega)
    have lb := digits_len 7 b.toNat (by omega)
    have lc := digits_len 7 c.toNat (by omega)
    refine AQ.next ?_
    refine CW.seq ?_
    -- region 5
    refine CW.region ?_
    refine RW.op1 rfl (runs_move rfl) ?_
    refine RW.call rfl call13 rfl rfl (digits_spec hst a (by omega) (by omega)) ?_
    rintro e w ⟨rfl, hstn⟩
    clear hst
    have hst := hstn
    clear hstn
    refine ⟨_, rfl, ?_⟩
    refine RW.op1 rfl (runs_addS rfl rfl (by simp only [ByteArray.size_append, strOfZ, show bytesS.size = 6 from rfl, show (ByteArray.mk #[98, 121, 116, 101, 115, 32]).size = 6 from rfl, show (ByteArray.mk #[45]).size = 1 from rfl, show (ByteArray.mk #[47]).size = 1 from rfl]; omega)) ?_
    refine RW.op1 rfl (runs_addS rfl rfl (by simp only [ByteArray.size_append, strOfZ, show bytesS.size = 6 from rfl, show (ByteArray.mk #[98, 121, 116, 101, 115, 32]).size = 6 from rfl, show (ByteArray.mk #[45]).size = 1 from rfl, show (ByteArray.mk #[47]).size = 1 from rfl]; omega)) ?_
    refine RW.op1 rfl (runs_move rfl) ?_
    refine RW.call rfl call13 rfl rfl (digits_spec hst b (by omega) (by omega)) ?_
    rintro e w ⟨rfl, hstn⟩
    clear hst
    have hst := hstn
    clear hstn
    refine ⟨_, rfl, ?_⟩
    refine RW.op1 rfl (runs_addS rfl rfl (by simp only [ByteArray.size_append, strOfZ, show bytesS.size = 6 from rfl, show (ByteArray.mk #[98, 121, 116, 101, 115, 32]).size = 6 from rfl, show (ByteArray.mk #[45]).size = 1 from rfl, show (ByteArray.mk #[47]).size = 1 from rfl]; omega)) ?_
    refine RW.op1 rfl (runs_addS rfl rfl (by simp only [ByteArray.size_append, strOfZ, show bytesS.size = 6 from rfl, show (ByteArray.mk #[98, 121, 116, 101, 115, 32]).size = 6 from rfl, show (ByteArray.mk #[45]).size = 1 from rfl, show (ByteArray.mk #[47]).size = 1 from rfl]; omega)) ?_
    refine RW.op1 rfl (runs_move rfl) ?_
    refine RW.call rfl call13 rfl rfl (digits_spec hst c (by omega) (by omega)) ?_
    rintro e w ⟨rfl, hstn⟩
    clear hst
    have hst := hstn
    clear hstn
    refine ⟨_, rfl, ?_⟩
    refine RW.op1 rfl (runs_addS rfl rfl (by simp only [ByteArray.size_append, strOfZ, show bytesS.size = 6 from rfl, show (ByteArray.mk #[98, 121, 116, 101, 115, 32]).size = 6 from rfl, show (ByteArray.mk #[45]).size = 1 from rfl, show (ByteArray.mk #[47]).size = 1 from rfl]; omega)) ?_
    refine RW.call rfl call8 rfl rfl (span_spec hst (spanT a b c) (by unfold spanT; simp only [ByteArray.size_append, strOfZ, show bytesS.size = 6 from rfl, show (ByteArray.mk #[45]).size = 1 from rfl, show (ByteArray.mk #[47]).size = 1 from rfl]; omega)) ?_
    rintro e w ⟨rfl, hstn⟩
    clear hst
    have hst := hstn
    clear hstn
    have hs0 := spanT_law a b c (by omega) (by omega) (by omega)
    generalize spanR (spanT a b c) = q at *
    obtain ⟨x, y, z, ok⟩ := q
    dsimp only
    have hkey : (ok = true ∧ x = a ∧ y = b ∧ z = c ∧ (a ≤ b ∧ b < c ∧ c < 1000000)) ∨ (ok = false ∧ x = 0 ∧ y = 0 ∧ z = 0 ∧ ¬ (a ≤ b ∧ b < c ∧ c < 1000000)) := by
      split at hs0
      · rename_i h; obtain ⟨rfl, rfl, rfl, rfl⟩ : x = a ∧ y = b ∧ z = c ∧ ok = true := by simpa using hs0
        exact .inl ⟨rfl, rfl, rfl, rfl, h⟩
      · rename_i h; obtain ⟨rfl, rfl, rfl, rfl⟩ : x = 0 ∧ y = 0 ∧ z = 0 ∧ ok = false := by unfold Z3 at hs0; simpa using hs0
        exact .inr ⟨rfl, rfl, rfl, rfl, h⟩
    refine ⟨_, rfl, ?_⟩
    refine RW.op1 rfl (runs_move rfl) ?_
    refine RW.op1 rfl (runs_extract rfl rfl) ?_
    refine RW.op1 rfl (runs_extract rfl rfl) ?_
    refine RW.op1 rfl (runs_extract rfl rfl) ?_
    refine RW.op1 rfl (runs_extract rfl rfl) ?_
    refine RW.op1 rfl (runs_assign rfl) ?_
    refine RW.op1 rfl (runs_assign rfl) ?_
    refine RW.op1 rfl (runs_assign rfl) ?_
    refine RW.op1 rfl (runs_assign rfl) ?_
    refine RW.done ?_
    refine AQ.next ?_
    refine CW.seq ?_
    -- region 6
    refine CW.cut Unit (fun _ w => St w0 w I L) (fun _ => [(0, .int .i64 a), (1, .int .i64 b), (2, .int .i64 c), (8, .int .i64 x), (9, .int .i64 y), (10, .int .i64 z), (11, .bool ok), (12, .bool (decide (a ≤ b ∧ b < c ∧ c < 1000000)))]) ?_ ?_
    · -- region 6
      refine CW.region ?_
      refine RW.op1 rfl (runs_move rfl) ?_
      refine RW.op1 rfl (runs_move rfl) ?_
      refine RW.op1 rfl (runs_leq rfl rfl) ?_
      refine RW.op1 rfl (runs_move rfl) ?_
      refine RW.split (t := 55) rfl (fun hb55 => ?_) (fun hb55 => ?_)
      · have hb55p := hb55
        try simp only [decide_eq_true_eq, decide_eq_false_iff_not] at hb55p
        refine RW.on_guard rfl rfl rfl rfl hb55 ?_
        refine RW.op1 rfl (runs_move rfl) ?_
        refine RW.on_guard rfl rfl rfl rfl hb55 ?_
        refine RW.op1 rfl (runs_move rfl) ?_
        refine RW.on_guard rfl rfl rfl rfl hb55 ?_
        refine RW.op1 rfl (runs_lss rfl rfl) ?_
        refine RW.op1 rfl (runs_pick_true rfl hb55 rfl) ?_
        refine RW.op1 rfl (runs_move rfl) ?_
        refine RW.split (t := 60) rfl (fun hb60 => ?_) (fun hb60 => ?_)
        · have hb60p := hb60
          try simp only [decide_eq_true_eq, decide_eq_false_iff_not] at hb60p
          refine RW.on_guard rfl rfl rfl rfl hb60 ?_
          refine RW.op1 rfl (runs_move rfl) ?_
          refine RW.on_guard rfl rfl rfl rfl hb60 ?_
          refine RW.op1 rfl (runs_lss rfl rfl) ?_
          refine RW.op1 rfl (runs_pick_true rfl hb60 rfl) ?_
          refine RW.op1 rfl (runs_assign rfl) ?_
          refine RW.done ?_
          exact AQ.meet () hst ⟨rfl, rfl, rfl, rfl, rfl, rfl, rfl, boolN (by first | (simp only [decide_eq_true_eq]; omega) | (simp only [Bool.false_eq_true, false_iff]; omega) | (simp_all <;> omega)), trivial⟩
        · have hb60p := hb60
          try simp only [decide_eq_true_eq, decide_eq_false_iff_not] at hb60p
          refine RW.off_guard rfl rfl rfl rfl hb60 ?_
          refine RW.off_guard rfl rfl rfl rfl hb60 ?_
          refine RW.op1 rfl (runs_pick_false rfl hb60 rfl) ?_
          refine RW.op1 rfl (runs_assign rfl) ?_
          refine RW.done ?_
          exact AQ.meet () hst ⟨rfl, rfl, rfl, rfl, rfl, rfl, rfl, boolN (by first | (simp only [decide_eq_true_eq]; omega) | (simp only [Bool.false_eq_true, false_iff]; omega) | (simp_all <;> omega)), trivial⟩
      · have hb55p := hb55
        try simp only [decide_eq_true_eq, decide_eq_false_iff_not] at hb55p
        refine RW.off_guard rfl rfl rfl rfl hb55 ?_
        refine RW.off_guard rfl rfl rfl rfl hb55 ?_
        refine RW.off_guard rfl rfl rfl rfl hb55 ?_
        refine RW.op1 rfl (runs_pick_false rfl hb55 rfl) ?_
        refine RW.op1 rfl (runs_move rfl) ?_
        refine RW.off_guard rfl rfl rfl rfl rfl ?_
        refine RW.off_guard rfl rfl rfl rfl rfl ?_
        refine RW.op1 rfl (runs_pick_false rfl rfl rfl) ?_
        refine RW.op1 rfl (runs_assign rfl) ?_
        refine RW.done ?_
        exact AQ.meet () hst ⟨rfl, rfl, rfl, rfl, rfl, rfl, rfl, boolN (by first | (simp only [decide_eq_true_eq]; omega) | (simp only [Bool.false_eq_true, false_iff]; omega) | (simp_all <;> omega)), trivial⟩
    · rintro _ w hstn
      clear hst
      have hst := hstn
      clear hstn
      obtain ⟨may, hmay⟩ : ∃ may, decide (a ≤ b ∧ b < c ∧ c < 1000000) = may := ⟨_, rfl⟩
      rw [hmay]
      replace hkey : (ok = true ∧ x = a ∧ y = b ∧ z = c ∧ may = true) ∨ (ok = false ∧ x = 0 ∧ y = 0 ∧ z = 0 ∧ may = false) := by
        rcases hkey with ⟨h1, h2, h3, h4, h5⟩ | ⟨h1, h2, h3, h4, h5⟩
        · exact .inl ⟨h1, h2, h3, h4, by rw [← hmay]; exact decide_eq_true h5⟩
        · exact .inr ⟨h1, h2, h3, h4, by rw [← hmay]; exact decide_eq_false h5⟩
      clear hmay hs0
      refine AQ.next ?_
      refine CW.seq ?_
      -- region 7
      refine CW.region ?_
      refine RW.op1 rfl (runs_move rfl) ?_
      refine RW.op1 rfl (runs_move rfl) ?_
      refine RW.op1 rfl (runs_eqB Tryd.underlying4 rfl rfl) ?_
      refine RW.op1 rfl (runs_move rfl) ?_
      refine RW.split (t := 67) rfl (fun hb67 => ?_) (fun hb67 => ?_)
      · have hb67p := hb67
        try simp only [decide_eq_true_eq, decide_eq_false_iff_not] at hb67p
        refine RW.on_guard rfl rfl rfl rfl hb67 ?_
        refine RW.op1 rfl (runs_move rfl) ?_
        refine RW.on_guard rfl rfl rfl rfl hb67 ?_
        refine RW.op1 rfl (runs_move rfl) ?_
        refine RW.split (t := 69) rfl (fun hb69 => ?_) (fun hb69 => ?_)
        · have hb69p := hb69
          try simp only [decide_eq_true_eq, decide_eq_false_iff_not] at hb69p
          refine RW.on_guard rfl rfl rfl rfl hb69 ?_
          refine RW.op1 rfl (runs_move rfl) ?_
          refine RW.on_guard rfl rfl rfl rfl hb69 ?_
          refine RW.op1 rfl (runs_move rfl) ?_
          refine RW.on_guard rfl rfl rfl rfl hb69 ?_
          refine RW.op1 rfl (runs_eqI rfl rfl) ?_
          refine RW.on_guard rfl rfl rfl rfl hb67 ?_
          refine RW.op1 rfl (runs_pick_true rfl hb69 rfl) ?_
          refine RW.on_guard rfl rfl rfl rfl hb67 ?_
          refine RW.op1 rfl (runs_move rfl) ?_
          refine RW.split (t := 74) rfl (fun hb74 => ?_) (fun hb74 => ?_)
          · have hb74p := hb74
            try simp only [decide_eq_true_eq, decide_eq_false_iff_not] at hb74p
            refine RW.on_guard rfl rfl rfl rfl hb74 ?_
            refine RW.op1 rfl (runs_move rfl) ?_
            refine RW.on_guard rfl rfl rfl rfl hb74 ?_
            refine RW.op1 rfl (runs_move rfl) ?_
            refine RW.on_guard rfl rfl rfl rfl hb74 ?_
            refine RW.op1 rfl (runs_eqI rfl rfl) ?_
            refine RW.on_guard rfl rfl rfl rfl hb67 ?_
            refine RW.op1 rfl (runs_pick_true rfl hb74 rfl) ?_
            refine RW.on_guard rfl rfl rfl rfl hb67 ?_
            refine RW.op1 rfl (runs_move rfl) ?_
            refine RW.split (t := 79) rfl (fun hb79 => ?_) (fun hb79 => ?_)
            · have hb79p := hb79
              try simp only [decide_eq_true_eq, decide_eq_false_iff_not] at hb79p
              refine RW.on_guard rfl rfl rfl rfl hb79 ?_
              refine RW.op1 rfl (runs_move rfl) ?_
              refine RW.on_guard rfl rfl rfl rfl hb79 ?_
              refine RW.op1 rfl (runs_move rfl) ?_
              refine RW.on_guard rfl rfl rfl rfl hb79 ?_
              refine RW.op1 rfl (runs_eqI rfl rfl) ?_
              refine RW.on_guard rfl rfl rfl rfl hb67 ?_
              refine RW.op1 rfl (runs_pick_true rfl hb79 rfl) ?_
              refine RW.on_guard rfl rfl rfl rfl hb67 ?_
              refine RW.op1 rfl (runs_move rfl) ?_
              refine RW.split (t := 84) rfl (fun hb84 => ?_) (fun hb84 => ?_)
              · have hb84p := hb84
                try simp only [decide_eq_true_eq, decide_eq_false_iff_not] at hb84p
                refine RW.off_guard rfl rfl rfl rfl hb84 ?_
                refine RW.off_guard rfl rfl rfl rfl hb84 ?_
                refine RW.off_guard rfl rfl rfl rfl hb84 ?_
                refine RW.off_undef rfl rfl rfl rfl ?_
                refine RW.off_undef rfl rfl rfl rfl ?_
                refine RW.off_guard rfl rfl rfl rfl hb84 ?_
                refine RW.off_guard rfl rfl rfl rfl hb84 ?_
                refine RW.off_undef rfl rfl rfl rfl ?_
                refine RW.off_undef rfl rfl rfl rfl ?_
                refine RW.off_guard rfl rfl rfl rfl hb84 ?_
                refine RW.off_guard rfl rfl rfl rfl hb84 ?_
                refine RW.off_undef rfl rfl rfl rfl ?_
                refine RW.off_undef rfl rfl rfl rfl ?_
                refine RW.off_guard rfl rfl rfl rfl hb84 ?_
                refine RW.on_guard rfl rfl rfl rfl hb67 ?_
                refine RW.op1 rfl (runs_pick_true rfl hb84 rfl) ?_
                refine RW.op1 rfl (runs_pick_true rfl hb67 rfl) ?_
                refine RW.op1 rfl (runs_move rfl) ?_
                refine RW.on_guard rfl rfl rfl rfl rfl ?_
                refine RW.call rfl call12 rfl rfl (wakes15_spec hst hT) ?_
                rintro e w ⟨rfl, I11, hI11, hstn⟩
                clear hst
                have hst := hstn
                clear hstn
                replace hle := hle.trans hI11
                refine ⟨_, rfl, ?_⟩
                refine RW.op1 rfl (runs_pick_true rfl rfl rfl) ?_
                refine RW.op1 rfl (runs_assign rfl) ?_
                refine RW.done ?_
                refine AQ.next ?_
                refine CW.ret ?_
                refine AQ.ret1 rfl rfl ?_
                first
                  | exact ⟨rfl, _, hle, hst⟩
                  | (exfalso; rcases hkey with ⟨rfl, rfl, rfl, rfl, rfl⟩ | ⟨rfl, rfl, rfl, rfl, rfl⟩ <;> simp_all)
              · have hb84p := hb84
                try simp only [decide_eq_true_eq, decide_eq_false_iff_not] at hb84p
                refine RW.on_guard rfl rfl rfl rfl hb84 ?_
                refine RW.op1 rfl (runs_move rfl) ?_
                refine RW.on_guard rfl rfl rfl rfl hb84 ?_
                refine RW.op1 rfl (runs_not rfl) ?_
                refine RW.on_guard rfl rfl rfl rfl hb84 ?_
                refine RW.op1 rfl (runs_move rfl) ?_
                refine RW.split (t := 87) rfl (fun hb87 => ?_) (fun hb87 => ?_)
                · have hb87p := hb87
                  try simp only [decide_eq_true_eq, decide_eq_false_iff_not] at hb87p
                  refine RW.on_guard rfl rfl rfl rfl hb87 ?_
                  refine RW.op1 rfl (runs_move rfl) ?_
                  refine RW.on_guard rfl rfl rfl rfl hb87 ?_
                  refine RW.op1 rfl (runs_eqI rfl rfl) ?_
                  refine RW.on_guard rfl rfl rfl rfl hb84 ?_
                  refine RW.op1 rfl (runs_pick_true rfl hb87 rfl) ?_
                  refine RW.on_guard rfl rfl rfl rfl hb84 ?_
                  refine RW.op1 rfl (runs_move rfl) ?_
                  refine RW.split (t := 91) rfl (fun hb91 => ?_) (fun hb91 => ?_)
                  · have hb91p := hb91
                    try simp only [decide_eq_true_eq, decide_eq_false_iff_not] at hb91p
                    refine RW.on_guard rfl rfl rfl rfl hb91 ?_
                    refine RW.op1 rfl (runs_move rfl) ?_
                    refine RW.on_guard rfl rfl rfl rfl hb91 ?_
                    refine RW.op1 rfl (runs_eqI rfl rfl) ?_
                    refine RW.on_guard rfl rfl rfl rfl hb84 ?_
                    refine RW.op1 rfl (runs_pick_true rfl hb91 rfl) ?_
                    refine RW.on_guard rfl rfl rfl rfl hb84 ?_
                    refine RW.op1 rfl (runs_move rfl) ?_
                    refine RW.split (t := 95) rfl (fun hb95 => ?_) (fun hb95 => ?_)
                    · have hb95p := hb95
                      try simp only [decide_eq_true_eq, decide_eq_false_iff_not] at hb95p
                      refine RW.on_guard rfl rfl rfl rfl hb95 ?_
                      refine RW.op1 rfl (runs_move rfl) ?_
                      refine RW.on_guard rfl rfl rfl rfl hb95 ?_
                      refine RW.op1 rfl (runs_eqI rfl rfl) ?_
                      refine RW.on_guard rfl rfl rfl rfl hb84 ?_
                      refine RW.op1 rfl (runs_pick_true rfl hb95 rfl) ?_
                      refine RW.on_guard rfl rfl rfl rfl hb67 ?_
                      refine RW.op1 rfl (runs_pick_false rfl hb84 rfl) ?_
                      refine RW.op1 rfl (runs_pick_true rfl hb67 rfl) ?_
                      refine RW.op1 rfl (runs_move rfl) ?_
                      refine RW.split (t := 101) rfl (fun hb101 => ?_) (fun hb101 => ?_)
                      · have hb101p := hb101
                        try simp only [decide_eq_true_eq, decide_eq_false_iff_not] at hb101p
                        refine RW.on_guard rfl rfl rfl rfl hb101 ?_
                        refine RW.call rfl call12 rfl rfl (wakes15_spec hst hT) ?_
                        rintro e w ⟨rfl, I12, hI12, hstn⟩
                        clear hst
                        have hst := hstn
                        clear hstn
                        replace hle := hle.trans hI12
                        refine ⟨_, rfl, ?_⟩
                        refine RW.op1 rfl (runs_pick_true rfl hb101 rfl) ?_
                        refine RW.op1 rfl (runs_assign rfl) ?_
                        refine RW.done ?_
                        refine AQ.next ?_
                        refine CW.ret ?_
                        refine AQ.ret1 rfl rfl ?_
                        first
                          | exact ⟨rfl, _, hle, hst⟩
                          | (exfalso; rcases hkey with ⟨rfl, rfl, rfl, rfl, rfl⟩ | ⟨rfl, rfl, rfl, rfl, rfl⟩ <;> simp_all)
                      · have hb101p := hb101
                        try simp only [decide_eq_true_eq, decide_eq_false_iff_not] at hb101p
                        refine RW.off_guard rfl rfl rfl rfl hb101 ?_
                        refine RW.op1 rfl (runs_pick_false rfl hb101 rfl) ?_
                        refine RW.op1 rfl (runs_assign rfl) ?_
                        refine RW.done ?_
                        refine AQ.next ?_
                        refine CW.ret ?_
                        refine AQ.ret1 rfl rfl ?_
                        first
                          | exact ⟨rfl, _, hle, hst⟩
                          | (exfalso; rcases hkey with ⟨rfl, rfl, rfl, rfl, rfl⟩ | ⟨rfl, rfl, rfl, rfl, rfl⟩ <;> simp_all)
                    · have hb95p := hb95
                      try simp only [decide_eq_true_eq, decide_eq_false_iff_not] at hb95p
                      refine RW.off_guard rfl rfl rfl rfl hb95 ?_
                      refine RW.off_guard rfl rfl rfl rfl hb95 ?_
                      refine RW.on_guard rfl rfl rfl rfl hb84 ?_
                      refine RW.op1 rfl (runs_pick_false rfl hb95 rfl) ?_
                      refine RW.on_guard rfl rfl rfl rfl hb67 ?_
                      refine RW.op1 rfl (runs_pick_false rfl hb84 rfl) ?_
                      refine RW.op1 rfl (runs_pick_true rfl hb67 rfl) ?_
                      refine RW.op1 rfl (runs_move rfl) ?_
                      refine RW.off_guard rfl rfl rfl rfl rfl ?_
                      refine RW.op1 rfl (runs_pick_false rfl rfl rfl) ?_
                      refine RW.op1 rfl (runs_assign rfl) ?_
                      refine RW.done ?_
                      refine AQ.next ?_
                      refine CW.ret ?_
                      refine AQ.ret1 rfl rfl ?_
                      first
                        | exact ⟨rfl, _, hle, hst⟩
                        | (exfalso; rcases hkey with ⟨rfl, rfl, rfl, rfl, rfl⟩ | ⟨rfl, rfl, rfl, rfl, rfl⟩ <;> simp_all)
                  · have hb91p := hb91
                    try simp only [decide_eq_true_eq, decide_eq_false_iff_not] at hb91p
                    refine RW.off_guard rfl rfl rfl rfl hb91 ?_
                    refine RW.off_guard rfl rfl rfl rfl hb91 ?_
                    refine RW.on_guard rfl rfl rfl rfl hb84 ?_
                    refine RW.op1 rfl (runs_pick_false rfl hb91 rfl) ?_
                    refine RW.on_guard rfl rfl rfl rfl hb84 ?_
                    refine RW.op1 rfl (runs_move rfl) ?_
                    refine RW.off_guard rfl rfl rfl rfl rfl ?_
                    refine RW.off_guard rfl rfl rfl rfl rfl ?_
                    refine RW.on_guard rfl rfl rfl rfl hb84 ?_
                    refine RW.op1 rfl (runs_pick_false rfl rfl rfl) ?_
                    refine RW.on_guard rfl rfl rfl rfl hb67 ?_
                    refine RW.op1 rfl (runs_pick_false rfl hb84 rfl) ?_
                    refine RW.op1 rfl (runs_pick_true rfl hb67 rfl) ?_
                    refine RW.op1 rfl (runs_move rfl) ?_
                    refine RW.off_guard rfl rfl rfl rfl rfl ?_
                    refine RW.op1 rfl (runs_pick_false rfl rfl rfl) ?_
                    refine RW.op1 rfl (runs_assign rfl) ?_
                    refine RW.done ?_
                    refine AQ.next ?_
                    refine CW.ret ?_
                    refine AQ.ret1 rfl rfl ?_
                    first
                      | exact ⟨rfl, _, hle, hst⟩
                      | (exfalso; rcases hkey with ⟨rfl, rfl, rfl, rfl, rfl⟩ | ⟨rfl, rfl, rfl, rfl, rfl⟩ <;> simp_all)
                · have hb87p := hb87
                  try simp only [decide_eq_true_eq, decide_eq_false_iff_not] at hb87p
                  refine RW.off_guard rfl rfl rfl rfl hb87 ?_
                  refine RW.off_guard rfl rfl rfl rfl hb87 ?_
                  refine RW.on_guard rfl rfl rfl rfl hb84 ?_
                  refine RW.op1 rfl (runs_pick_false rfl hb87 rfl) ?_
                  refine RW.on_guard rfl rfl rfl rfl hb84 ?_
                  refine RW.op1 rfl (runs_move rfl) ?_
                  refine RW.off_guard rfl rfl rfl rfl rfl ?_
                  refine RW.off_guard rfl rfl rfl rfl rfl ?_
                  refine RW.on_guard rfl rfl rfl rfl hb84 ?_
                  refine RW.op1 rfl (runs_pick_false rfl rfl rfl) ?_
                  refine RW.on_guard rfl rfl rfl rfl hb84 ?_
                  refine RW.op1 rfl (runs_move rfl) ?_
                  refine RW.off_guard rfl rfl rfl rfl rfl ?_
                  refine RW.off_guard rfl rfl rfl rfl rfl ?_
                  refine RW.on_guard rfl rfl rfl rfl hb84 ?_
                  refine RW.op1 rfl (runs_pick_false rfl rfl rfl) ?_
                  refine RW.on_guard rfl rfl rfl rfl hb67 ?_
                  refine RW.op1 rfl (runs_pick_false rfl hb84 rfl) ?_
                  refine RW.op1 rfl (runs_pick_true rfl hb67 rfl) ?_
                  refine RW.op1 rfl (runs_move rfl) ?_
                  refine RW.off_guard rfl rfl rfl rfl rfl ?_
                  refine RW.op1 rfl (runs_pick_false rfl rfl rfl) ?_
                  refine RW.op1 rfl (runs_assign rfl) ?_
                  refine RW.done ?_
                  refine AQ.next ?_
                  refine CW.ret ?_
                  refine AQ.ret1 rfl rfl ?_
                  first
                    | exact ⟨rfl, _, hle, hst⟩
                    | (exfalso; rcases hkey with ⟨rfl, rfl, rfl, rfl, rfl⟩ | ⟨rfl, rfl, rfl, rfl, rfl⟩ <;> simp_all)
            · have hb79p := hb79
              try simp only [decide_eq_true_eq, decide_eq_false_iff_not] at hb79p
              refine RW.off_guard rfl rfl rfl rfl hb79 ?_
              refine RW.off_guard rfl rfl rfl rfl hb79 ?_
              refine RW.off_guard rfl rfl rfl rfl hb79 ?_
              refine RW.on_guard rfl rfl rfl rfl hb67 ?_
              refine RW.op1 rfl (runs_pick_false rfl hb79 rfl) ?_
              refine RW.on_guard rfl rfl rfl rfl hb67 ?_
              refine RW.op1 rfl (runs_move rfl) ?_
              refine RW.on_guard rfl rfl rfl rfl rfl ?_
              refine RW.op1 rfl (runs_move rfl) ?_
              refine RW.on_guard rfl rfl rfl rfl rfl ?_
              refine RW.op1 rfl (runs_not rfl) ?_
              refine RW.on_guard rfl rfl rfl rfl rfl ?_
              refine RW.op1 rfl (runs_move rfl) ?_
              refine RW.split (t := 87) rfl (fun hb87 => ?_) (fun hb87 => ?_)
              · have hb87p := hb87
                try simp only [decide_eq_true_eq, decide_eq_false_iff_not] at hb87p
                refine RW.on_guard rfl rfl rfl rfl hb87 ?_
                refine RW.op1 rfl (runs_move rfl) ?_
                refine RW.on_guard rfl rfl rfl rfl hb87 ?_
                refine RW.op1 rfl (runs_eqI rfl rfl) ?_
                refine RW.on_guard rfl rfl rfl rfl rfl ?_
                refine RW.op1 rfl (runs_pick_true rfl hb87 rfl) ?_
                refine RW.on_guard rfl rfl rfl rfl rfl ?_
                refine RW.op1 rfl (runs_move rfl) ?_
                refine RW.split (t := 91) rfl (fun hb91 => ?_) (fun hb91 => ?_)
                · have hb91p := hb91
                  try simp only [decide_eq_true_eq, decide_eq_false_iff_not] at hb91p
                  refine RW.on_guard rfl rfl rfl rfl hb91 ?_
                  refine RW.op1 rfl (runs_move rfl) ?_
                  refine RW.on_guard rfl rfl rfl rfl hb91 ?_
                  refine RW.op1 rfl (runs_eqI rfl rfl) ?_
                  refine RW.on_guard rfl rfl rfl rfl rfl ?_
                  refine RW.op1 rfl (runs_pick_true rfl hb91 rfl) ?_
                  refine RW.on_guard rfl rfl rfl rfl rfl ?_
                  refine RW.op1 rfl (runs_move rfl) ?_
                  refine RW.split (t := 95) rfl (fun hb95 => ?_) (fun hb95 => ?_)
                  · have hb95p := hb95
                    try simp only [decide_eq_true_eq, decide_eq_false_iff_not] at hb95p
                    refine RW.on_guard rfl rfl rfl rfl hb95 ?_
                    refine RW.op1 rfl (runs_move rfl) ?_
                    refine RW.on_guard rfl rfl rfl rfl hb95 ?_
                    refine RW.op1 rfl (runs_eqI rfl rfl) ?_
                    refine RW.on_guard rfl rfl rfl rfl rfl ?_
                    refine RW.op1 rfl (runs_pick_true rfl hb95 rfl) ?_
                    refine RW.on_guard rfl rfl rfl rfl hb67 ?_
                    refine RW.op1 rfl (runs_pick_false rfl rfl rfl) ?_
                    refine RW.op1 rfl (runs_pick_true rfl hb67 rfl) ?_
                    refine RW.op1 rfl (runs_move rfl) ?_
                    refine RW.split (t := 101) rfl (fun hb101 => ?_) (fun hb101 => ?_)
                    · have hb101p := hb101
                      try simp only [decide_eq_true_eq, decide_eq_false_iff_not] at hb101p
                      refine RW.on_guard rfl rfl rfl rfl hb101 ?_
                      refine RW.call rfl call12 rfl rfl (wakes15_spec hst hT) ?_
                      rintro e w ⟨rfl, I13, hI13, hstn⟩
                      clear hst
                      have hst := hstn
                      clear hstn
                      replace hle := hle.trans hI13
                      refine ⟨_, rfl, ?_⟩
                      refine RW.op1 rfl (runs_pick_true rfl hb101 rfl) ?_
                      refine RW.op1 rfl (runs_assign rfl) ?_
                      refine RW.done ?_
                      refine AQ.next ?_
                      refine CW.ret ?_
                      refine AQ.ret1 rfl rfl ?_
                      first
                        | exact ⟨rfl, _, hle, hst⟩
                        | (exfalso; rcases hkey with ⟨rfl, rfl, rfl, rfl, rfl⟩ | ⟨rfl, rfl, rfl, rfl, rfl⟩ <;> simp_all)
                    · have hb101p := hb101
                      try simp only [decide_eq_true_eq, decide_eq_false_iff_not] at hb101p
                      refine RW.off_guard rfl rfl rfl rfl hb101 ?_
                      refine RW.op1 rfl (runs_pick_false rfl hb101 rfl) ?_
                      refine RW.op1 rfl (runs_assign rfl) ?_
                      refine RW.done ?_
                      refine AQ.next ?_
                      refine CW.ret ?_
                      refine AQ.ret1 rfl rfl ?_
                      first
                        | exact ⟨rfl, _, hle, hst⟩
                        | (exfalso; rcases hkey with ⟨rfl, rfl, rfl, rfl, rfl⟩ | ⟨rfl, rfl, rfl, rfl, rfl⟩ <;> simp_all)
                  · have hb95p := hb95
                    try simp only [decide_eq_true_eq, decide_eq_false_iff_not] at hb95p
                    refine RW.off_guard rfl rfl rfl rfl hb95 ?_
                    refine RW.off_guard rfl rfl rfl rfl hb95 ?_
                    refine RW.on_guard rfl rfl rfl rfl rfl ?_
                    refine RW.op1 rfl (runs_pick_false rfl hb95 rfl) ?_
                    refine RW.on_guard rfl rfl rfl rfl hb67 ?_
                    refine RW.op1 rfl (runs_pick_false rfl rfl rfl) ?_
                    refine RW.op1 rfl (runs_pick_true rfl hb67 rfl) ?_
                    refine RW.op1 rfl (runs_move rfl) ?_
                    refine RW.off_guard rfl rfl rfl rfl rfl ?_
                    refine RW.op1 rfl (runs_pick_false rfl rfl rfl) ?_
                    refine RW.op1 rfl (runs_assign rfl) ?_
                    refine RW.done ?_
                    refine AQ.next ?_
                    refine CW.ret ?_
                    refine AQ.ret1 rfl rfl ?_
                    first
                      | exact ⟨rfl, _, hle, hst⟩
                      | (exfalso; rcases hkey with ⟨rfl, rfl, rfl, rfl, rfl⟩ | ⟨rfl, rfl, rfl, rfl, rfl⟩ <;> simp_all)
                · have hb91p := hb91
                  try simp only [decide_eq_true_eq, decide_eq_false_iff_not] at hb91p
                  refine RW.off_guard rfl rfl rfl rfl hb91 ?_
                  refine RW.off_guard rfl rfl rfl rfl hb91 ?_
                  refine RW.on_guard rfl rfl rfl rfl rfl ?_
                  refine RW.op1 rfl (runs_pick_false rfl hb91 rfl) ?_
                  refine RW.on_guard rfl rfl rfl rfl rfl ?_
                  refine RW.op1 rfl (runs_move rfl) ?_
                  refine RW.off_guard rfl rfl rfl rfl rfl ?_
                  refine RW.off_guard rfl rfl rfl rfl rfl ?_
                  refine RW.on_guard rfl rfl rfl rfl rfl ?_
                  refine RW.op1 rfl (runs_pick_false rfl rfl rfl) ?_
                  refine RW.on_guard rfl rfl rfl rfl hb67 ?_
                  refine RW.op1 rfl (runs_pick_false rfl rfl rfl) ?_
                  refine RW.op1 rfl (runs_pick_true rfl hb67 rfl) ?_
                  refine RW.op1 rfl (runs_move rfl) ?_
                  refine RW.off_guard rfl rfl rfl rfl rfl ?_
                  refine RW.op1 rfl (runs_pick_false rfl rfl rfl) ?_
                  refine RW.op1 rfl (runs_assign rfl) ?_
                  refine RW.done ?_
                  refine AQ.next ?_
                  refine CW.ret ?_
                  refine AQ.ret1 rfl rfl ?_
                  first
                    | exact ⟨rfl, _, hle, hst⟩
                    | (exfalso; rcases hkey with ⟨rfl, rfl, rfl, rfl, rfl⟩ | ⟨rfl, rfl, rfl, rfl, rfl⟩ <;> simp_all)
              · have hb87p := hb87
                try simp only [decide_eq_true_eq, decide_eq_false_iff_not] at hb87p
                refine RW.off_guard rfl rfl rfl rfl hb87 ?_
                refine RW.off_guard rfl rfl rfl rfl hb87 ?_
                refine RW.on_guard rfl rfl rfl rfl rfl ?_
                refine RW.op1 rfl (runs_pick_false rfl hb87 rfl) ?_
                refine RW.on_guard rfl rfl rfl rfl rfl ?_
                refine RW.op1 rfl (runs_move rfl) ?_
                refine RW.off_guard rfl rfl rfl rfl rfl ?_
                refine RW.off_guard rfl rfl rfl rfl rfl ?_
                refine RW.on_guard rfl rfl rfl rfl rfl ?_
                refine RW.op1 rfl (runs_pick_false rfl rfl rfl) ?_
                refine RW.on_guard rfl rfl rfl rfl rfl ?_
                refine RW.op1 rfl (runs_move rfl) ?_
                refine RW.off_guard rfl rfl rfl rfl rfl ?_
                refine RW.off_guard rfl rfl rfl rfl rfl ?_
                refine RW.on_guard rfl rfl rfl rfl rfl ?_
                refine RW.op1 rfl (runs_pick_false rfl rfl rfl) ?_
                refine RW.on_guard rfl rfl rfl rfl hb67 ?_
                refine RW.op1 rfl (runs_pick_false rfl rfl rfl) ?_
                refine RW.op1 rfl (runs_pick_true rfl hb67 rfl) ?_
                refine RW.op1 rfl (runs_move rfl) ?_
                refine RW.off_guard rfl rfl rfl rfl rfl ?_
                refine RW.op1 rfl (runs_pick_false rfl rfl rfl) ?_
                refine RW.op1 rfl (runs_assign rfl) ?_
                refine RW.done ?_
                refine AQ.next ?_
                refine CW.ret ?_
                refine AQ.ret1 rfl rfl ?_
                first
                  | exact ⟨rfl, _, hle, hst⟩
                  | (exfalso; rcases hkey with ⟨rfl, rfl, rfl, rfl, rfl⟩ | ⟨rfl, rfl, rfl, rfl, rfl⟩ <;> simp_all)
          · have hb74p := hb74
            try simp only [decide_eq_true_eq, decide_eq_false_iff_not] at hb74p
            refine RW.off_guard rfl rfl rfl rfl hb74 ?_
            refine RW.off_guard rfl rfl rfl rfl hb74 ?_
            refine RW.off_guard rfl rfl rfl rfl hb74 ?_
            refine RW.on_guard rfl rfl rfl rfl hb67 ?_
            refine RW.op1 rfl (runs_pick_false rfl hb74 rfl) ?_
            refine RW.on_guard rfl rfl rfl rfl hb67 ?_
            refine RW.op1 rfl (runs_move rfl) ?_
            refine RW.off_guard rfl rfl rfl rfl rfl ?_
            refine RW.off_guard rfl rfl rfl rfl rfl ?_
            refine RW.off_guard rfl rfl rfl rfl rfl ?_
            refine RW.on_guard rfl rfl rfl rfl hb67 ?_
            refine RW.op1 rfl (runs_pick_false rfl rfl rfl) ?_
            refine RW.on_guard rfl rfl rfl rfl hb67 ?_
            refine RW.op1 rfl (runs_move rfl) ?_
            refine RW.on_guard rfl rfl rfl rfl rfl ?_
            refine RW.op1 rfl (runs_move rfl) ?_
            refine RW.on_guard rfl rfl rfl rfl rfl ?_
            refine RW.op1 rfl (runs_not rfl) ?_
            refine RW.on_guard rfl rfl rfl rfl rfl ?_
            refine RW.op1 rfl (runs_move rfl) ?_
            refine RW.split (t := 87) rfl (fun hb87 => ?_) (fun hb87 => ?_)
            · have hb87p := hb87
              try simp only [decide_eq_true_eq, decide_eq_false_iff_not] at hb87p
              refine RW.on_guard rfl rfl rfl rfl hb87 ?_
              refine RW.op1 rfl (runs_move rfl) ?_
              refine RW.on_guard rfl rfl rfl rfl hb87 ?_
              refine RW.op1 rfl (runs_eqI rfl rfl) ?_
              refine RW.on_guard rfl rfl rfl rfl rfl ?_
              refine RW.op1 rfl (runs_pick_true rfl hb87 rfl) ?_
              refine RW.on_guard rfl rfl rfl rfl rfl ?_
              refine RW.op1 rfl (runs_move rfl) ?_
              refine RW.split (t := 91) rfl (fun hb91 => ?_) (fun hb91 => ?_)
              · have hb91p := hb91
                try simp only [decide_eq_true_eq, decide_eq_false_iff_not] at hb91p
                refine RW.on_guard rfl rfl rfl rfl hb91 ?_
                refine RW.op1 rfl (runs_move rfl) ?_
                refine RW.on_guard rfl rfl rfl rfl hb91 ?_
                refine RW.op1 rfl (runs_eqI rfl rfl) ?_
                refine RW.on_guard rfl rfl rfl rfl rfl ?_
                refine RW.op1 rfl (runs_pick_true rfl hb91 rfl) ?_
                refine RW.on_guard rfl rfl rfl rfl rfl ?_
                refine RW.op1 rfl (runs_move rfl) ?_
                refine RW.split (t := 95) rfl (fun hb95 => ?_) (fun hb95 => ?_)
                · have hb95p := hb95
                  try simp only [decide_eq_true_eq, decide_eq_false_iff_not] at hb95p
                  refine RW.on_guard rfl rfl rfl rfl hb95 ?_
                  refine RW.op1 rfl (runs_move rfl) ?_
                  refine RW.on_guard rfl rfl rfl rfl hb95 ?_
                  refine RW.op1 rfl (runs_eqI rfl rfl) ?_
                  refine RW.on_guard rfl rfl rfl rfl rfl ?_
                  refine RW.op1 rfl (runs_pick_true rfl hb95 rfl) ?_
                  refine RW.on_guard rfl rfl rfl rfl hb67 ?_
                  refine RW.op1 rfl (runs_pick_false rfl rfl rfl) ?_
                  refine RW.op1 rfl (runs_pick_true rfl hb67 rfl) ?_
                  refine RW.op1 rfl (runs_move rfl) ?_
                  refine RW.split (t := 101) rfl (fun hb101 => ?_) (fun hb101 => ?_)
                  · have hb101p := hb101
                    try simp only [decide_eq_true_eq, decide_eq_false_iff_not] at hb101p
                    refine RW.on_guard rfl rfl rfl rfl hb101 ?_
                    refine RW.call rfl call12 rfl rfl (wakes15_spec hst hT) ?_
                    rintro e w ⟨rfl, I14, hI14, hstn⟩
                    clear hst
                    have hst := hstn
                    clear hstn
                    replace hle := hle.trans hI14
                    refine ⟨_, rfl, ?_⟩
                    refine RW.op1 rfl (runs_pick_true rfl hb101 rfl) ?_
                    refine RW.op1 rfl (runs_assign rfl) ?_
                    refine RW.done ?_
                    refine AQ.next ?_
                    refine CW.ret ?_
                    refine AQ.ret1 rfl rfl ?_
                    first
                      | exact ⟨rfl, _, hle, hst⟩
                      | (exfalso; rcases hkey with ⟨rfl, rfl, rfl, rfl, rfl⟩ | ⟨rfl, rfl, rfl, rfl, rfl⟩ <;> simp_all)
                  · have hb101p := hb101
                    try simp only [decide_eq_true_eq, decide_eq_false_iff_not] at hb101p
                    refine RW.off_guard rfl rfl rfl rfl hb101 ?_
                    refine RW.op1 rfl (runs_pick_false rfl hb101 rfl) ?_
                    refine RW.op1 rfl (runs_assign rfl) ?_
                    refine RW.done ?_
                    refine AQ.next ?_
                    refine CW.ret ?_
                    refine AQ.ret1 rfl rfl ?_
                    first
                      | exact ⟨rfl, _, hle, hst⟩
                      | (exfalso; rcases hkey with ⟨rfl, rfl, rfl, rfl, rfl⟩ | ⟨rfl, rfl, rfl, rfl, rfl⟩ <;> simp_all)
                · have hb95p := hb95
                  try simp only [decide_eq_true_eq, decide_eq_false_iff_not] at hb95p
                  refine RW.off_guard rfl rfl rfl rfl hb95 ?_
                  refine RW.off_guard rfl rfl rfl rfl hb95 ?_
                  refine RW.on_guard rfl rfl rfl rfl rfl ?_
                  refine RW.op1 rfl (runs_pick_false rfl hb95 rfl) ?_
                  refine RW.on_guard rfl rfl rfl rfl hb67 ?_
                  refine RW.op1 rfl (runs_pick_false rfl rfl rfl) ?_
                  refine RW.op1 rfl (runs_pick_true rfl hb67 rfl) ?_
                  refine RW.op1 rfl (runs_move rfl) ?_
                  refine RW.off_guard rfl rfl rfl rfl rfl ?_
                  refine RW.op1 rfl (runs_pick_false rfl rfl rfl) ?_
                  refine RW.op1 rfl (runs_assign rfl) ?_
                  refine RW.done ?_
                  refine AQ.next ?_
                  refine CW.ret ?_
                  refine AQ.ret1 rfl rfl ?_
                  first
                    | exact ⟨rfl, _, hle, hst⟩
                    | (exfalso; rcases hkey with ⟨rfl, rfl, rfl, rfl, rfl⟩ | ⟨rfl, rfl, rfl, rfl, rfl⟩ <;> simp_all)
              · have hb91p := hb91
                try simp only [decide_eq_true_eq, decide_eq_false_iff_not] at hb91p
                refine RW.off_guard rfl rfl rfl rfl hb91 ?_
                refine RW.off_guard rfl rfl rfl rfl hb91 ?_
                refine RW.on_guard rfl rfl rfl rfl rfl ?_
                refine RW.op1 rfl (runs_pick_false rfl hb91 rfl) ?_
                refine RW.on_guard rfl rfl rfl rfl rfl ?_
                refine RW.op1 rfl (runs_move rfl) ?_
                refine RW.off_guard rfl rfl rfl rfl rfl ?_
                refine RW.off_guard rfl rfl rfl rfl rfl ?_
                refine RW.on_guard rfl rfl rfl rfl rfl ?_
                refine RW.op1 rfl (runs_pick_false rfl rfl rfl) ?_
                refine RW.on_guard rfl rfl rfl rfl hb67 ?_
                refine RW.op1 rfl (runs_pick_false rfl rfl rfl) ?_
                refine RW.op1 rfl (runs_pick_true rfl hb67 rfl) ?_
                refine RW.op1 rfl (runs_move rfl) ?_
                refine RW.off_guard rfl rfl rfl rfl rfl ?_
                refine RW.op1 rfl (runs_pick_false rfl rfl rfl) ?_
                refine RW.op1 rfl (runs_assign rfl) ?_
                refine RW.done ?_
                refine AQ.next ?_
                refine CW.ret ?_
                refine AQ.ret1 rfl rfl ?_
                first
                  | exact ⟨rfl, _, hle, hst⟩
                  | (exfalso; rcases hkey with ⟨rfl, rfl, rfl, rfl, rfl⟩ | ⟨rfl, rfl, rfl, rfl, rfl⟩ <;> simp_all)
            · have hb87p := hb87
              try simp only [decide_eq_true_eq, decide_eq_false_iff_not] at hb87p
              refine RW.off_guard rfl rfl rfl rfl hb87 ?_
              refine RW.off_guard rfl rfl rfl rfl hb87 ?_
              refine RW.on_guard rfl rfl rfl rfl rfl ?_
              refine RW.op1 rfl (runs_pick_false rfl hb87 rfl) ?_
              refine RW.on_guard rfl rfl rfl rfl rfl ?_
              refine RW.op1 rfl (runs_move rfl) ?_
              refine RW.off_guard rfl rfl rfl rfl rfl ?_
              refine RW.off_guard rfl rfl rfl rfl rfl ?_
              refine RW.on_guard rfl rfl rfl rfl rfl ?_
              refine RW.op1 rfl (runs_pick_false rfl rfl rfl) ?_
              refine RW.on_guard rfl rfl rfl rfl rfl ?_
              refine RW.op1 rfl (runs_move rfl) ?_
              refine RW.off_guard rfl rfl rfl rfl rfl ?_
              refine RW.off_guard rfl rfl rfl rfl rfl ?_
              refine RW.on_guard rfl rfl rfl rfl rfl ?_
              refine RW.op1 rfl (runs_pick_false rfl rfl rfl) ?_
              refine RW.on_guard rfl rfl rfl rfl hb67 ?_
              refine RW.op1 rfl (runs_pick_false rfl rfl rfl) ?_
              refine RW.op1 rfl (runs_pick_true rfl hb67 rfl) ?_
              refine RW.op1 rfl (runs_move rfl) ?_
              refine RW.off_guard rfl rfl rfl rfl rfl ?_
              refine RW.op1 rfl (runs_pick_false rfl rfl rfl) ?_
              refine RW.op1 rfl (runs_assign rfl) ?_
              refine RW.done ?_
              refine AQ.next ?_
              refine CW.ret ?_
              refine AQ.ret1 rfl rfl ?_
              first
                | exact ⟨rfl, _, hle, hst⟩
                | (exfalso; rcases hkey with ⟨rfl, rfl, rfl, rfl, rfl⟩ | ⟨rfl, rfl, rfl, rfl, rfl⟩ <;> simp_all)
        · have hb69p := hb69
          try simp only [decide_eq_true_eq, decide_eq_false_iff_not] at hb69p
          refine RW.off_guard rfl rfl rfl rfl hb69 ?_
          refine RW.off_guard rfl rfl rfl rfl hb69 ?_
          refine RW.off_guard rfl rfl rfl rfl hb69 ?_
          refine RW.on_guard rfl rfl rfl rfl hb67 ?_
          refine RW.op1 rfl (runs_pick_false rfl hb69 rfl) ?_
          refine RW.on_guard rfl rfl rfl rfl hb67 ?_
          refine RW.op1 rfl (runs_move rfl) ?_
          refine RW.off_guard rfl rfl rfl rfl rfl ?_
          refine RW.off_guard rfl rfl rfl rfl rfl ?_
          refine RW.off_guard rfl rfl rfl rfl rfl ?_
          refine RW.on_guard rfl rfl rfl rfl hb67 ?_
          refine RW.op1 rfl (runs_pick_false rfl rfl rfl) ?_
          refine RW.on_guard rfl rfl rfl rfl hb67 ?_
          refine RW.op1 rfl (runs_move rfl) ?_
          refine RW.off_guard rfl rfl rfl rfl rfl ?_
          refine RW.off_guard rfl rfl rfl rfl rfl ?_
          refine RW.off_guard rfl rfl rfl rfl rfl ?_
          refine RW.on_guard rfl rfl rfl rfl hb67 ?_
          refine RW.op1 rfl (runs_pick_false rfl rfl rfl) ?_
          refine RW.on_guard rfl rfl rfl rfl hb67 ?_
          refine RW.op1 rfl (runs_move rfl) ?_
          refine RW.on_guard rfl rfl rfl rfl rfl ?_
          refine RW.op1 rfl (runs_move rfl) ?_
          refine RW.on_guard rfl rfl rfl rfl rfl ?_
          refine RW.op1 rfl (runs_not rfl) ?_
          refine RW.on_guard rfl rfl rfl rfl rfl ?_
          refine RW.op1 rfl (runs_move rfl) ?_
          refine RW.split (t := 87) rfl (fun hb87 => ?_) (fun hb87 => ?_)
          · have hb87p := hb87
            try simp only [decide_eq_true_eq, decide_eq_false_iff_not] at hb87p
            refine RW.on_guard rfl rfl rfl rfl hb87 ?_
            refine RW.op1 rfl (runs_move rfl) ?_
            refine RW.on_guard rfl rfl rfl rfl hb87 ?_
            refine RW.op1 rfl (runs_eqI rfl rfl) ?_
            refine RW.on_guard rfl rfl rfl rfl rfl ?_
            refine RW.op1 rfl (runs_pick_true rfl hb87 rfl) ?_
            refine RW.on_guard rfl rfl rfl rfl rfl ?_
            refine RW.op1 rfl (runs_move rfl) ?_
            refine RW.split (t := 91) rfl (fun hb91 => ?_) (fun hb91 => ?_)
            · have hb91p := hb91
              try simp only [decide_eq_true_eq, decide_eq_false_iff_not] at hb91p
              refine RW.on_guard rfl rfl rfl rfl hb91 ?_
              refine RW.op1 rfl (runs_move rfl) ?_
              refine RW.on_guard rfl rfl rfl rfl hb91 ?_
              refine RW.op1 rfl (runs_eqI rfl rfl) ?_
              refine RW.on_guard rfl rfl rfl rfl rfl ?_
              refine RW.op1 rfl (runs_pick_true rfl hb91 rfl) ?_
              refine RW.on_guard rfl rfl rfl rfl rfl ?_
              refine RW.op1 rfl (runs_move rfl) ?_
              refine RW.split (t := 95) rfl (fun hb95 => ?_) (fun hb95 => ?_)
              · have hb95p := hb95
                try simp only [decide_eq_true_eq, decide_eq_false_iff_not] at hb95p
                refine RW.on_guard rfl rfl rfl rfl hb95 ?_
                refine RW.op1 rfl (runs_move rfl) ?_
                refine RW.on_guard rfl rfl rfl rfl hb95 ?_
                refine RW.op1 rfl (runs_eqI rfl rfl) ?_
                refine RW.on_guard rfl rfl rfl rfl rfl ?_
                refine RW.op1 rfl (runs_pick_true rfl hb95 rfl) ?_
                refine RW.on_guard rfl rfl rfl rfl hb67 ?_
                refine RW.op1 rfl (runs_pick_false rfl rfl rfl) ?_
                refine RW.op1 rfl (runs_pick_true rfl hb67 rfl) ?_
                refine RW.op1 rfl (runs_move rfl) ?_
                refine RW.split (t := 101) rfl (fun hb101 => ?_) (fun hb101 => ?_)
                · have hb101p := hb101
                  try simp only [decide_eq_true_eq, decide_eq_false_iff_not] at hb101p
                  refine RW.on_guard rfl rfl rfl rfl hb101 ?_
                  refine RW.call rfl call12 rfl rfl (wakes15_spec hst hT) ?_
                  rintro e w ⟨rfl, I15, hI15, hstn⟩
                  clear hst
                  have hst := hstn
                  clear hstn
                  replace hle := hle.trans hI15
                  refine ⟨_, rfl, ?_⟩
                  refine RW.op1 rfl (runs_pick_true rfl hb101 rfl) ?_
                  refine RW.op1 rfl (runs_assign rfl) ?_
                  refine RW.done ?_
                  refine AQ.next ?_
                  refine CW.ret ?_
                  refine AQ.ret1 rfl rfl ?_
                  first
                    | exact ⟨rfl, _, hle, hst⟩
                    | (exfalso; rcases hkey with ⟨rfl, rfl, rfl, rfl, rfl⟩ | ⟨rfl, rfl, rfl, rfl, rfl⟩ <;> simp_all)
                · have hb101p := hb101
                  try simp only [decide_eq_true_eq, decide_eq_false_iff_not] at hb101p
                  refine RW.off_guard rfl rfl rfl rfl hb101 ?_
                  refine RW.op1 rfl (runs_pick_false rfl hb101 rfl) ?_
                  refine RW.op1 rfl (runs_assign rfl) ?_
                  refine RW.done ?_
                  refine AQ.next ?_
                  refine CW.ret ?_
                  refine AQ.ret1 rfl rfl ?_
                  first
                    | exact ⟨rfl, _, hle, hst⟩
                    | (exfalso; rcases hkey with ⟨rfl, rfl, rfl, rfl, rfl⟩ | ⟨rfl, rfl, rfl, rfl, rfl⟩ <;> simp_all)
              · have hb95p := hb95
                try simp only [decide_eq_true_eq, decide_eq_false_iff_not] at hb95p
                refine RW.off_guard rfl rfl rfl rfl hb95 ?_
                refine RW.off_guard rfl rfl rfl rfl hb95 ?_
                refine RW.on_guard rfl rfl rfl rfl rfl ?_
                refine RW.op1 rfl (runs_pick_false rfl hb95 rfl) ?_
                refine RW.on_guard rfl rfl rfl rfl hb67 ?_
                refine RW.op1 rfl (runs_pick_false rfl rfl rfl) ?_
                refine RW.op1 rfl (runs_pick_true rfl hb67 rfl) ?_
                refine RW.op1 rfl (runs_move rfl) ?_
                refine RW.off_guard rfl rfl rfl rfl rfl ?_
                refine RW.op1 rfl (runs_pick_false rfl rfl rfl) ?_
                refine RW.op1 rfl (runs_assign rfl) ?_
                refine RW.done ?_
                refine AQ.next ?_
                refine CW.ret ?_
                refine AQ.ret1 rfl rfl ?_
                first
                  | exact ⟨rfl, _, hle, hst⟩
                  | (exfalso; rcases hkey with ⟨rfl, rfl, rfl, rfl, rfl⟩ | ⟨rfl, rfl, rfl, rfl, rfl⟩ <;> simp_all)
            · have hb91p := hb91
              try simp only [decide_eq_true_eq, decide_eq_false_iff_not] at hb91p
              refine RW.off_guard rfl rfl rfl rfl hb91 ?_
              refine RW.off_guard rfl rfl rfl rfl hb91 ?_
              refine RW.on_guard rfl rfl rfl rfl rfl ?_
              refine RW.op1 rfl (runs_pick_false rfl hb91 rfl) ?_
              refine RW.on_guard rfl rfl rfl rfl rfl ?_
              refine RW.op1 rfl (runs_move rfl) ?_
              refine RW.off_guard rfl rfl rfl rfl rfl ?_
              refine RW.off_guard rfl rfl rfl rfl rfl ?_
              refine RW.on_guard rfl rfl rfl rfl rfl ?_
              refine RW.op1 rfl (runs_pick_false rfl rfl rfl) ?_
              refine RW.on_guard rfl rfl rfl rfl hb67 ?_
              refine RW.op1 rfl (runs_pick_false rfl rfl rfl) ?_
              refine RW.op1 rfl (runs_pick_true rfl hb67 rfl) ?_
              refine RW.op1 rfl (runs_move rfl) ?_
              refine RW.off_guard rfl rfl rfl rfl rfl ?_
              refine RW.op1 rfl (runs_pick_false rfl rfl rfl) ?_
              refine RW.op1 rfl (runs_assign rfl) ?_
              refine RW.done ?_
              refine AQ.next ?_
              refine CW.ret ?_
              refine AQ.ret1 rfl rfl ?_
              first
                | exact ⟨rfl, _, hle, hst⟩
                | (exfalso; rcases hkey with ⟨rfl, rfl, rfl, rfl, rfl⟩ | ⟨rfl, rfl, rfl, rfl, rfl⟩ <;> simp_all)
          · have hb87p := hb87
            try simp only [decide_eq_true_eq, decide_eq_false_iff_not] at hb87p
            refine RW.off_guard rfl rfl rfl rfl hb87 ?_
            refine RW.off_guard rfl rfl rfl rfl hb87 ?_
            refine RW.on_guard rfl rfl rfl rfl rfl ?_
            refine RW.op1 rfl (runs_pick_false rfl hb87 rfl) ?_
            refine RW.on_guard rfl rfl rfl rfl rfl ?_
            refine RW.op1 rfl (runs_move rfl) ?_
            refine RW.off_guard rfl rfl rfl rfl rfl ?_
            refine RW.off_guard rfl rfl rfl rfl rfl ?_
            refine RW.on_guard rfl rfl rfl rfl rfl ?_
            refine RW.op1 rfl (runs_pick_false rfl rfl rfl) ?_
            refine RW.on_guard rfl rfl rfl rfl rfl ?_
            refine RW.op1 rfl (runs_move rfl) ?_
            refine RW.off_guard rfl rfl rfl rfl rfl ?_
            refine RW.off_guard rfl rfl rfl rfl rfl ?_
            refine RW.on_guard rfl rfl rfl rfl rfl ?_
            refine RW.op1 rfl (runs_pick_false rfl rfl rfl) ?_
            refine RW.on_guard rfl rfl rfl rfl hb67 ?_
            refine RW.op1 rfl (runs_pick_false rfl rfl rfl) ?_
            refine RW.op1 rfl (runs_pick_true rfl hb67 rfl) ?_
            refine RW.op1 rfl (runs_move rfl) ?_
            refine RW.off_guard rfl rfl rfl rfl rfl ?_
            refine RW.op1 rfl (runs_pick_false rfl rfl rfl) ?_
            refine RW.op1 rfl (runs_assign rfl) ?_
            refine RW.done ?_
            refine AQ.next ?_
            refine CW.ret ?_
            refine AQ.ret1 rfl rfl ?_
            first
              | exact ⟨rfl, _, hle, hst⟩
              | (exfalso; rcases hkey with ⟨rfl, rfl, rfl, rfl, rfl⟩ | ⟨rfl, rfl, rfl, rfl, rfl⟩ <;> simp_all)
      · have hb67p := hb67
        try simp only [decide_eq_true_eq, decide_eq_false_iff_not] at hb67p
        refine RW.off_guard rfl rfl rfl rfl hb67 ?_
        refine RW.off_guard rfl rfl rfl rfl hb67 ?_
        refine RW.off_undef rfl rfl rfl rfl ?_
        refine RW.off_undef rfl rfl rfl rfl ?_
        refine RW.off_undef rfl rfl rfl rfl ?_
        refine RW.off_guard rfl rfl rfl rfl hb67 ?_
        refine RW.off_guard rfl rfl rfl rfl hb67 ?_
        refine RW.off_undef rfl rfl rfl rfl ?_
        refine RW.off_undef rfl rfl rfl rfl ?_
        refine RW.off_undef rfl rfl rfl rfl ?_
        refine RW.off_guard rfl rfl rfl rfl hb67 ?_
        refine RW.off_guard rfl rfl rfl rfl hb67 ?_
        refine RW.off_undef rfl rfl rfl rfl ?_
        refine RW.off_undef rfl rfl rfl rfl ?_
        refine RW.off_undef rfl rfl rfl rfl ?_
        refine RW.off_guard rfl rfl rfl rfl hb67 ?_
        refine RW.off_guard rfl rfl rfl rfl hb67 ?_
        refine RW.off_undef rfl rfl rfl rfl ?_
        refine RW.off_undef rfl rfl rfl rfl ?_
        refine RW.off_undef rfl rfl rfl rfl ?_
        refine RW.off_undef rfl rfl rfl rfl ?_
        refine RW.off_undef rfl rfl rfl rfl ?_
        refine RW.off_undef rfl rfl rfl rfl ?_
        refine RW.off_undef rfl rfl rfl rfl ?_
        refine RW.off_undef rfl rfl rfl rfl ?_
        refine RW.off_undef rfl rfl rfl rfl ?_
        refine RW.off_undef rfl rfl rfl rfl ?_
        refine RW.off_undef rfl rfl rfl rfl ?_
        refine RW.off_undef rfl rfl rfl rfl ?_
        refine RW.off_undef rfl rfl rfl rfl ?_
        refine RW.off_undef rfl rfl rfl rfl ?_
        refine RW.off_guard rfl rfl rfl rfl hb67 ?_
        refine RW.op1 rfl (runs_pick_false rfl hb67 rfl) ?_
        refine RW.op1 rfl (runs_move rfl) ?_
        refine RW.off_guard rfl rfl rfl rfl rfl ?_
        refine RW.op1 rfl (runs_pick_false rfl rfl rfl) ?_
        refine RW.op1 rfl (runs_assign rfl) ?_
        refine RW.done ?_
        refine AQ.next ?_
        refine CW.ret ?_
        refine AQ.ret1 rfl rfl ?_
        first
          | exact ⟨rfl, _, hle, hst⟩
          | (exfalso; rcases hkey with ⟨rfl, rfl, rfl, rfl, rfl⟩ | ⟨rfl, rfl, rfl, rfl, rfl⟩ <;> simp_all)
end Go.Proofs.YtjlkidokkaibiaaDoorX
