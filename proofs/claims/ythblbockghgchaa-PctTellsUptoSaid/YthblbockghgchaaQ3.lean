/- Decoding, trimming, the document's own: what these come to. -/
import Derived.Test.YthblbockghgchaaT
import Derived.Test.YthblbockghgchaaQ2
namespace Go.Proofs.YthblbockghgchaaX
set_option linter.unusedVariables false
set_option linter.unusedSimpArgs false
open Go Go.RowKit Go.Proofs

set_option maxRecDepth 100000 in
set_option maxHeartbeats 1000000 in
theorem rdigit_spec {w0 w : World} {I : Imm} {L : Own} (hst : St w0 w I L) (c : UInt8) :
    Calls Try.prog 20 #[.int .u8 (c.toNat : Int)] w fun e w' => e = .returned (.int .i64 (digV c)) ∧ St w0 w' I L := by
  refine enter Try.func20 rfl (N := 24) rfl rfl ?_
  simp only [List.zipIdx_cons, List.zipIdx_nil, List.map_cons, List.map_nil, Nat.zero_add, Nat.reduceAdd]
  have hle := Imm.le.refl I
  refine CW.seq ?_
  -- region 0
  refine CW.region ?_
  refine RW.op1 rfl (runs_assign rfl) ?_
  refine RW.done ?_
  refine AQ.next ?_
  refine CW.seq ?_
  refine CW.seq ?_
  -- region 1
  refine CW.region ?_
  refine RW.op1 rfl (runs_assign rfl) ?_
  refine RW.done ?_
  refine AQ.next ?_
  refine CW.block ?_
  -- loop 1
  refine CW.loop Nat (fun i w => St w0 w I L ∧ i ≤ 16 ∧ ∀ j, j < i → mD j c = false) (fun i => [(0, .int .u8 (c.toNat : Int)), (3, .int .i64 (i : Nat))]) (fun i => 16 - i) ⟨0, ⟨hst, by omega, fun j hj => absurd hj (Nat.not_lt_zero _)⟩, ⟨rfl, rfl, trivial⟩⟩ ?_
  rintro i w ⟨hstn, hi, hno⟩
  clear hst
  have hst := hstn
  clear hstn
  refine CW.seq ?_
  refine CW.seq ?_
  -- region 2
  refine CW.region ?_
  refine RW.op1 rfl (runs_move rfl) ?_
  refine RW.op1 rfl (runs_lss rfl rfl) ?_
  refine RW.done ?_
  refine AQ.next ?_
  refine CW.cond rfl (fun hc5 => ?_) (fun hc5 => ?_)
  · have hcb5 := hc5
    try simp only [decide_eq_true_eq, decide_eq_false_iff_not] at hc5
    have hi1 : i < 16 := by omega
    refine CW.skip ?_
    refine AQ.next ?_
    refine CW.seq ?_
    refine CW.block ?_
    refine CW.seq ?_
    -- region 4
    refine CW.cut Unit (fun _ w => St w0 w I L) (fun _ => [(0, .int .u8 (c.toNat : Int)), (3, .int .i64 (i : Nat)), (22, .bool (mD i c))]) ?_ ?_
    · -- region 4
      refine CW.region ?_
      refine RW.op1 rfl (runs_move rfl) ?_
      refine RW.op1 rfl (runs_hexI Try.underlying9 rfl rfl (by omega)) ?_
      refine RW.op1 rfl (runs_move rfl) ?_
      refine RW.op1 rfl (runs_eqI rfl rfl) ?_
      refine RW.op1 rfl (runs_move rfl) ?_
      refine RW.split (t := 12) rfl (fun hb12 => ?_) (fun hb12 => ?_)
      · have hb12p := hb12
        try simp only [decide_eq_true_eq, decide_eq_false_iff_not] at hb12p
        refine RW.off_guard rfl rfl rfl rfl hb12 ?_
        refine RW.off_guard rfl rfl rfl rfl hb12 ?_
        refine RW.off_guard rfl rfl rfl rfl hb12 ?_
        refine RW.off_undef rfl rfl rfl rfl ?_
        refine RW.off_undef rfl rfl rfl rfl ?_
        refine RW.off_undef rfl rfl rfl rfl ?_
        refine RW.off_undef rfl rfl rfl rfl ?_
        refine RW.off_undef rfl rfl rfl rfl ?_
        refine RW.off_guard rfl rfl rfl rfl hb12 ?_
        refine RW.op1 rfl (runs_pick_true rfl hb12 rfl) ?_
        refine RW.done ?_
        first
          | exact AQ.meet () hst ⟨rfl, rfl, congrArg (fun z => some (Value.bool z)) (mD_1 (by omega)), trivial⟩
          | exact AQ.meet () hst ⟨rfl, rfl, congrArg (fun z => some (Value.bool z)) (mD_3 (by omega) (by omega)), trivial⟩
          | exact AQ.meet () hst ⟨rfl, rfl, congrArg (fun z => some (Value.bool z)) (mD_2 (by omega) (by omega)), trivial⟩
      · have hb12p := hb12
        try simp only [decide_eq_true_eq, decide_eq_false_iff_not] at hb12p
        refine RW.on_guard rfl rfl rfl rfl hb12 ?_
        refine RW.op1 rfl (runs_move rfl) ?_
        refine RW.on_guard rfl rfl rfl rfl hb12 ?_
        refine RW.op1 rfl (runs_gtr rfl rfl) ?_
        refine RW.on_guard rfl rfl rfl rfl hb12 ?_
        refine RW.op1 rfl (runs_move rfl) ?_
        refine RW.split (t := 15) rfl (fun hb15 => ?_) (fun hb15 => ?_)
        · have hb15p := hb15
          try simp only [decide_eq_true_eq, decide_eq_false_iff_not] at hb15p
          refine RW.on_guard rfl rfl rfl rfl hb15 ?_
          refine RW.op1 rfl (runs_move rfl) ?_
          refine RW.on_guard rfl rfl rfl rfl hb15 ?_
          refine RW.op1 rfl (runs_hexI Try.underlying9 rfl rfl (by omega)) ?_
          refine RW.on_guard rfl rfl rfl rfl hb15 ?_
          refine RW.op1 rfl (runs_addW rfl rfl) ?_
          refine RW.on_guard rfl rfl rfl rfl hb15 ?_
          refine RW.op1 rfl (runs_move rfl) ?_
          refine RW.on_guard rfl rfl rfl rfl hb15 ?_
          refine RW.op1 rfl (runs_eqI rfl rfl) ?_
          refine RW.on_guard rfl rfl rfl rfl hb12 ?_
          refine RW.op1 rfl (runs_pick_true rfl hb15 rfl) ?_
          refine RW.op1 rfl (runs_pick_false rfl hb12 rfl) ?_
          refine RW.done ?_
          first
            | exact AQ.meet () hst ⟨rfl, rfl, congrArg (fun z => some (Value.bool z)) (mD_1 (by omega)), trivial⟩
            | exact AQ.meet () hst ⟨rfl, rfl, congrArg (fun z => some (Value.bool z)) (mD_3 (by omega) (by omega)), trivial⟩
            | exact AQ.meet () hst ⟨rfl, rfl, congrArg (fun z => some (Value.bool z)) (mD_2 (by omega) (by omega)), trivial⟩
        · have hb15p := hb15
          try simp only [decide_eq_true_eq, decide_eq_false_iff_not] at hb15p
          refine RW.off_guard rfl rfl rfl rfl hb15 ?_
          refine RW.off_guard rfl rfl rfl rfl hb15 ?_
          refine RW.off_guard rfl rfl rfl rfl hb15 ?_
          refine RW.off_guard rfl rfl rfl rfl hb15 ?_
          refine RW.off_guard rfl rfl rfl rfl hb15 ?_
          refine RW.on_guard rfl rfl rfl rfl hb12 ?_
          refine RW.op1 rfl (runs_pick_false rfl hb15 rfl) ?_
          refine RW.op1 rfl (runs_pick_false rfl hb12 rfl) ?_
          refine RW.done ?_
          first
            | exact AQ.meet () hst ⟨rfl, rfl, congrArg (fun z => some (Value.bool z)) (mD_1 (by omega)), trivial⟩
            | exact AQ.meet () hst ⟨rfl, rfl, congrArg (fun z => some (Value.bool z)) (mD_3 (by omega) (by omega)), trivial⟩
            | exact AQ.meet () hst ⟨rfl, rfl, congrArg (fun z => some (Value.bool z)) (mD_2 (by omega) (by omega)), trivial⟩
    · rintro _ w hstn
      clear hst
      have hst := hstn
      clear hstn
      refine AQ.next ?_
      refine CW.cond rfl (fun hc22 => ?_) (fun hc22 => ?_)
      · have hcb22 := hc22
        try simp only [decide_eq_true_eq, decide_eq_false_iff_not] at hc22
        refine CW.seq ?_
        -- region 5
        refine CW.region ?_
        refine RW.op1 rfl (runs_move rfl) ?_
        refine RW.op1 rfl (runs_assign rfl) ?_
        refine RW.done ?_
        refine AQ.next ?_
        refine CW.ret ?_
        refine AQ.block_ret ?_
        refine AQ.past_ret ?_
        refine AQ.past_ret ?_
        refine AQ.block_ret ?_
        refine AQ.past_ret ?_
        refine AQ.ret1 rfl rfl ?_
        exact ⟨by rw [← mD_hit hi1 hcb22], hst⟩
      · have hcb22 := hc22
        try simp only [decide_eq_true_eq, decide_eq_false_iff_not] at hc22
        refine CW.skip ?_
        refine AQ.block_normal ?_
        refine AQ.next ?_
        -- region 3
        refine CW.region ?_
        refine RW.op1 rfl (runs_move rfl) ?_
        refine RW.op1 rfl (runs_add rfl rfl (by omega)) ?_
        refine RW.op1 rfl (runs_assign rfl) ?_
        refine RW.done ?_
        exact AQ.again (x := i) (i + 1) ⟨hst, by omega, fun j hj => by
          rcases Nat.lt_succ_iff_lt_or_eq.1 hj with h | h
          · exact hno j h
          · rw [h]; exact hcb22⟩ ⟨rfl, rfl, trivial⟩ (by omega)
  · have hcb5 := hc5
    try simp only [decide_eq_true_eq, decide_eq_false_iff_not] at hc5
    have hi2 : i = 16 := by omega
    refine CW.exit ?_
    refine AQ.past_exit ?_
    refine AQ.past_exit ?_
    refine AQ.block_hit ?_
    refine AQ.next ?_
    refine CW.seq ?_
    -- region 6
    refine CW.region ?_
    refine RW.op1 rfl (runs_assign rfl) ?_
    refine RW.done ?_
    refine AQ.next ?_
    refine CW.ret ?_
    refine AQ.ret1 rfl rfl ?_
    exact ⟨by rw [← mD_miss (c := c) (fun j hj => hno j (by omega))], hst⟩
set_option maxRecDepth 100000 in
set_option maxHeartbeats 1000000 in
theorem decode_spec {w0 w : World} {I : Imm} {L : Own} (hst : St w0 w I L) (s : ByteArray) (hs : s.size ≤ 1000000000) :
    Calls Try.prog 11 #[.string s] w fun e w' => ∃ I', Imm.le I I' ∧ e = .returned (.tuple #[.string (strOf ((decB s.toList).getD [])), .bool (decB s.toList).isSome]) ∧ St w0 w' I' L := by
  refine enter Try.func11 rfl (N := 63) rfl rfl ?_
  simp only [List.zipIdx_cons, List.zipIdx_nil, List.map_cons, List.map_nil, Nat.zero_add, Nat.reduceAdd]
  have hle := Imm.le.refl I
  refine CW.seq ?_
  -- region 0
  refine CW.region ?_
  refine RW.op1 rfl (runs_assign rfl) ?_
  refine RW.op1 rfl (runs_assign rfl) ?_
  refine RW.done ?_
  refine AQ.next ?_
  refine CW.seq ?_
  -- region 1
  refine CW.region ?_
  refine RW.op1 rfl (runs_assign rfl) ?_
  refine RW.done ?_
  refine AQ.next ?_
  refine CW.seq ?_
  refine CW.seq ?_
  -- region 2
  refine CW.region ?_
  refine RW.op1 rfl (runs_assign rfl) ?_
  refine RW.done ?_
  refine AQ.next ?_
  refine CW.block ?_
  -- loop 1
  refine CW.loop (Nat × Imm × Value × Own × List UInt8) (fun x w => St w0 w x.2.1 (x.2.2.2.1 ++ L) ∧ I.le x.2.1 ∧ GrowB 5 x.2.2.1 x.2.2.2.2 x.2.2.2.1 ∧ decB s.toList = (decB (s.toList.drop x.1)).map (x.2.2.2.2 ++ ·) ∧ x.2.2.2.2.length ≤ x.1) (fun x => [(0, .string s), (4, x.2.2.1), (5, .int .i64 (x.1 : Nat))]) (fun x => s.size - x.1) ⟨(0, I, _, [], []), ⟨hst, Imm.le.refl _, GrowB.nil _, by rw [List.drop_zero]; cases decB s.toList <;> simp, Nat.le_refl _⟩, ⟨rfl, rfl, rfl, trivial⟩⟩ ?_
  rintro ⟨i, J, vo, Lo, out⟩ w ⟨hstn, hle, hgo, hd, hol⟩
  dsimp only at hstn hle hgo hd hol ⊢
  clear hst
  have hst := hstn
  clear hstn
  refine CW.seq ?_
  refine CW.seq ?_
  -- region 3
  refine CW.region ?_
  refine RW.op1 rfl (runs_move rfl) ?_
  refine RW.op1 rfl (runs_move rfl) ?_
  refine RW.op1 rfl (runs_lenS Try.underlying9 rfl) ?_
  refine RW.op1 rfl (runs_lss rfl rfl) ?_
  refine RW.done ?_
  refine AQ.next ?_
  refine CW.cond rfl (fun hc9 => ?_) (fun hc9 => ?_)
  · have hcb9 := hc9
    try simp only [decide_eq_true_eq, decide_eq_false_iff_not] at hc9
    have hi : i < s.size := by omega
    obtain ⟨c, hc⟩ : ∃ c, s.toList.getD i 0 = c := ⟨_, rfl⟩
    have hds := drop_step hi
    rw [hc] at hds
    rw [hds] at hd
    have hcl := c.toNat_lt
    refine CW.skip ?_
    refine AQ.next ?_
    refine CW.seq ?_
    refine CW.block ?_
    refine CW.seq ?_
    refine CW.seq ?_
    -- region 5
    refine CW.region ?_
    refine RW.op1 rfl (runs_move rfl) ?_
    refine RW.op1 rfl (runs_move rfl) ?_
    refine RW.op1 rfl (runs_indexL Try.underlying9 rfl rfl (by omega) (by omega)) ?_
    rw [show ((i : Nat) : Int).toNat = i from Int.toNat_natCast i, hc]
    refine RW.op1 rfl (runs_neI rfl rfl) ?_
    refine RW.done ?_
    refine AQ.next ?_
    refine CW.cond rfl (fun hc15 => ?_) (fun hc15 => ?_)
    · have hcb15 := hc15
      try simp only [decide_eq_true_eq, decide_eq_false_iff_not] at hc15
      rw [decB_plain hc15, dec_go] at hd
      refine CW.seq ?_
      -- region 6
      refine CW.region ?_
      refine RW.op1 rfl (runs_move rfl) ?_
      refine RW.op1 rfl (runs_move rfl) ?_
      refine RW.op1 rfl (runs_move rfl) ?_
      refine RW.op1 rfl (runs_indexL Try.underlying9 rfl rfl (by omega) (by omega)) ?_
      rw [show ((i : Nat) : Int).toNat = i from Int.toNat_natCast i, hc]
      refine RW.opE rfl (runs_litB (bs := [c]) rfl Try.underlying25 ti5 (by decide) rfl rfl rfl hst) ?_
      rintro u20 w ⟨J20, hJ20, hstn, h20⟩
      clear hst
      have hst := hstn
      clear hstn
      replace hle := hle.trans hJ20
      refine RW.opE rfl (runs_appendB Try.underlying25 ti5 rfl rfl hst hgo h20 (by simp only [List.length_cons, List.length_nil]; omega)) ?_
      rintro u21 w ⟨L21, hstn, hg21⟩
      clear hst
      have hst := hstn
      clear hstn
      refine RW.op1 rfl (runs_assign rfl) ?_
      refine RW.done ?_
      refine AQ.next ?_
      refine CW.exit ?_
      refine AQ.past_exit ?_
      refine AQ.block_hit ?_
      refine AQ.next ?_
      -- region 4
      refine CW.region ?_
      refine RW.op1 rfl (runs_move rfl) ?_
      refine RW.op1 rfl (runs_add rfl rfl (by omega)) ?_
      refine RW.op1 rfl (runs_assign rfl) ?_
      refine RW.done ?_
      exact AQ.again (x := (i, J, vo, Lo, out)) (i + 1, _, _, _, _) ⟨hst, hle, hg21, hd, by simp; omega⟩ ⟨rfl, rfl, rfl, trivial⟩ (by dsimp only; omega)
    · have hcb15 := hc15
      try simp only [decide_eq_true_eq, decide_eq_false_iff_not] at hc15
      obtain rfl := is37 hc15
      refine CW.skip ?_
      refine AQ.next ?_
      refine CW.seq ?_
      refine CW.seq ?_
      -- region 7
      refine CW.region ?_
      refine RW.op1 rfl (runs_move rfl) ?_
      refine RW.op1 rfl (runs_add rfl rfl (by omega)) ?_
      refine RW.op1 rfl (runs_move rfl) ?_
      refine RW.op1 rfl (runs_lenS Try.underlying9 rfl) ?_
      refine RW.op1 rfl (runs_geq rfl rfl) ?_
      refine RW.op1 rfl (runs_move rfl) ?_
      refine RW.split (t := 27) rfl (fun hb27 => ?_) (fun hb27 => ?_)
      · have hb27p := hb27
        try simp only [decide_eq_true_eq, decide_eq_false_iff_not] at hb27p
        have hnone : decB s.toList = none := by rw [hd, decB_short (by rw [List.length_drop, size_toList]; omega)]; rfl
        refine RW.off_guard rfl rfl rfl rfl hb27 ?_
        refine RW.off_guard rfl rfl rfl rfl hb27 ?_
        refine RW.off_guard rfl rfl rfl rfl hb27 ?_
        refine RW.off_guard rfl rfl rfl rfl hb27 ?_
        refine RW.off_guard rfl rfl rfl rfl hb27 ?_
        refine RW.off_guard rfl rfl rfl rfl hb27 ?_
        refine RW.op1 rfl (runs_pick_true rfl hb27 rfl) ?_
        refine RW.op1 rfl (runs_move rfl) ?_
        refine RW.off_guard rfl rfl rfl rfl rfl ?_
        refine RW.off_guard rfl rfl rfl rfl rfl ?_
        refine RW.off_guard rfl rfl rfl rfl rfl ?_
        refine RW.off_guard rfl rfl rfl rfl rfl ?_
        refine RW.off_guard rfl rfl rfl rfl rfl ?_
        refine RW.off_guard rfl rfl rfl rfl rfl ?_
        refine RW.op1 rfl (runs_pick_true rfl rfl rfl) ?_
        refine RW.done ?_
        refine AQ.next ?_
        have hnone : decB s.toList = none := by first | assumption | (rw [hd, decB_bad (.inr (by omega))]; rfl)
        refine CW.cond_true rfl ?_
        refine CW.seq ?_
        -- region 8
        refine CW.region ?_
        refine RW.op1 rfl (runs_assign rfl) ?_
        refine RW.op1 rfl (runs_assign rfl) ?_
        refine RW.done ?_
        refine AQ.next ?_
        refine CW.ret ?_
        refine AQ.past_ret ?_
        refine AQ.block_ret ?_
        refine AQ.past_ret ?_
        refine AQ.past_ret ?_
        refine AQ.block_ret ?_
        refine AQ.past_ret ?_
        refine AQ.ret2 rfl rfl rfl ?_
        exact ⟨_, hle, by rw [hnone]; rfl, hst.sub (List.sublist_append_right _ _)⟩
      · have hb27p := hb27
        try simp only [decide_eq_true_eq, decide_eq_false_iff_not] at hb27p
        obtain ⟨a, ha⟩ : ∃ a, s.toList.getD (i + 1) 0 = a := ⟨_, rfl⟩
        obtain ⟨b, hb⟩ : ∃ b, s.toList.getD (i + 2) 0 = b := ⟨_, rfl⟩
        have hd1 := drop_step (s := s) (i := i + 1) (by omega)
        have hd2 := drop_step (s := s) (i := i + 1 + 1) (by omega)
        rw [ha] at hd1
        rw [show s.toList.getD (i + 1 + 1) 0 = b from hb] at hd2
        rw [hd1, hd2] at hd
        have hda := digV_le a
        have hdb := digV_le b
        have hal := a.toNat_lt
        have hbl := b.toNat_lt
        refine RW.on_guard rfl rfl rfl rfl hb27 ?_
        refine RW.op1 rfl (runs_move rfl) ?_
        refine RW.on_guard rfl rfl rfl rfl hb27 ?_
        refine RW.op1 rfl (runs_move rfl) ?_
        refine RW.on_guard rfl rfl rfl rfl hb27 ?_
        refine RW.op1 rfl (runs_add rfl rfl (by omega)) ?_
        refine RW.on_guard rfl rfl rfl rfl hb27 ?_
        refine RW.op1 rfl (runs_indexL Try.underlying9 rfl rfl (by omega) (by omega)) ?_
        rw [show ((i : Int) + 1).toNat = i + 1 by omega, ha]
        refine RW.on_guard rfl rfl rfl rfl hb27 ?_
        refine RW.call rfl call19 rfl rfl (digit_spec hst a) ?_
        rintro e w ⟨rfl, hstn⟩
        clear hst
        have hst := hstn
        clear hstn
        refine ⟨_, rfl, ?_⟩
        refine RW.on_guard rfl rfl rfl rfl hb27 ?_
        refine RW.op1 rfl (runs_lss rfl rfl) ?_
        refine RW.op1 rfl (runs_pick_false rfl hb27 rfl) ?_
        refine RW.op1 rfl (runs_move rfl) ?_
        refine RW.split (t := 35) rfl (fun hb35 => ?_) (fun hb35 => ?_)
        · have hb35p := hb35
          try simp only [decide_eq_true_eq, decide_eq_false_iff_not] at hb35p
          have hnone : decB s.toList = none := by rw [hd, decB_bad (.inl (by omega))]; rfl
          refine RW.off_guard rfl rfl rfl rfl hb35 ?_
          refine RW.off_guard rfl rfl rfl rfl hb35 ?_
          refine RW.off_guard rfl rfl rfl rfl hb35 ?_
          refine RW.off_guard rfl rfl rfl rfl hb35 ?_
          refine RW.off_guard rfl rfl rfl rfl hb35 ?_
          refine RW.off_guard rfl rfl rfl rfl hb35 ?_
          refine RW.op1 rfl (runs_pick_true rfl hb35 rfl) ?_
          refine RW.done ?_
          refine AQ.next ?_
          have hnone : decB s.toList = none := by first | assumption | (rw [hd, decB_bad (.inr (by omega))]; rfl)
          refine CW.cond_true rfl ?_
          refine CW.seq ?_
          -- region 8
          refine CW.region ?_
          refine RW.op1 rfl (runs_assign rfl) ?_
          refine RW.op1 rfl (runs_assign rfl) ?_
          refine RW.done ?_
          refine AQ.next ?_
          refine CW.ret ?_
          refine AQ.past_ret ?_
          refine AQ.block_ret ?_
          refine AQ.past_ret ?_
          refine AQ.past_ret ?_
          refine AQ.block_ret ?_
          refine AQ.past_ret ?_
          refine AQ.ret2 rfl rfl rfl ?_
          exact ⟨_, hle, by rw [hnone]; rfl, hst.sub (List.sublist_append_right _ _)⟩
        · have hb35p := hb35
          try simp only [decide_eq_true_eq, decide_eq_false_iff_not] at hb35p
          skip
          refine RW.on_guard rfl rfl rfl rfl hb35 ?_
          refine RW.op1 rfl (runs_move rfl) ?_
          refine RW.on_guard rfl rfl rfl rfl hb35 ?_
          refine RW.op1 rfl (runs_move rfl) ?_
          refine RW.on_guard rfl rfl rfl rfl hb35 ?_
          refine RW.op1 rfl (runs_add rfl rfl (by omega)) ?_
          refine RW.on_guard rfl rfl rfl rfl hb35 ?_
          refine RW.op1 rfl (runs_indexL Try.underlying9 rfl rfl (by omega) (by omega)) ?_
          rw [show ((i : Int) + 2).toNat = i + 2 by omega, hb]
          refine RW.on_guard rfl rfl rfl rfl hb35 ?_
          refine RW.call rfl call19 rfl rfl (digit_spec hst b) ?_
          rintro e w ⟨rfl, hstn⟩
          clear hst
          have hst := hstn
          clear hstn
          refine ⟨_, rfl, ?_⟩
          refine RW.on_guard rfl rfl rfl rfl hb35 ?_
          refine RW.op1 rfl (runs_lss rfl rfl) ?_
          refine RW.op1 rfl (runs_pick_false rfl hb35 rfl) ?_
          refine RW.done ?_
          refine AQ.next ?_
          refine CW.cond rfl (fun hc42 => ?_) (fun hc42 => ?_)
          · have hcb42 := hc42
            try simp only [decide_eq_true_eq, decide_eq_false_iff_not] at hc42
            have hnone : decB s.toList = none := by first | assumption | (rw [hd, decB_bad (.inr (by omega))]; rfl)
            refine CW.seq ?_
            -- region 8
            refine CW.region ?_
            refine RW.op1 rfl (runs_assign rfl) ?_
            refine RW.op1 rfl (runs_assign rfl) ?_
            refine RW.done ?_
            refine AQ.next ?_
            refine CW.ret ?_
            refine AQ.past_ret ?_
            refine AQ.block_ret ?_
            refine AQ.past_ret ?_
            refine AQ.past_ret ?_
            refine AQ.block_ret ?_
            refine AQ.past_ret ?_
            refine AQ.ret2 rfl rfl rfl ?_
            exact ⟨_, hle, by rw [hnone]; rfl, hst.sub (List.sublist_append_right _ _)⟩
          · have hcb42 := hc42
            try simp only [decide_eq_true_eq, decide_eq_false_iff_not] at hc42
            rw [decB_pct (by omega) (by omega), dec_go] at hd
            refine CW.skip ?_
            refine AQ.next ?_
            refine CW.seq ?_
            -- region 9
            refine CW.draw (fun _ => True) (.q 0 (.q 1 (.q 2 (.q 3 (.q 4 (.q 7 (.q 8 (.q 9 (.q 10 (.l 5 (.q 6 (.l 11 (.q 12 (.q 13 (.l 14 (.l 15 (.q 16 .nil))))))))))))))))) follows (by kernel_rfl) trivial ?_
            replace hst := hst.draw
            refine DRW.q rfl rfl (fun w' hF => runs_move rfl) ?_
            refine DRW.q rfl rfl (fun w' hF => runs_move rfl) ?_
            refine DRW.q rfl rfl (fun w' hF => runs_move rfl) ?_
            refine DRW.q rfl rfl (fun w' hF => runs_add rfl rfl (by omega)) ?_
            refine DRW.q rfl rfl (fun w' hF => runs_indexL Try.underlying9 rfl rfl (by omega) (by omega)) ?_
            rw [show ((i : Int) + 1).toNat = i + 1 by omega, ha]
            refine DRW.q rfl rfl (fun w' hF => runs_move rfl) ?_
            refine DRW.q rfl rfl (fun w' hF => runs_move rfl) ?_
            refine DRW.q rfl rfl (fun w' hF => runs_add rfl rfl (by omega)) ?_
            refine DRW.q rfl rfl (fun w' hF => runs_indexL Try.underlying9 rfl rfl (by omega) (by omega)) ?_
            rw [show ((i : Int) + 2).toNat = i + 2 by omega, hb]
            refine DRW.call rfl rfl call19 rfl rfl (digit_spec hst a) ?_
            rintro e w ⟨rfl, hstn⟩
            clear hst
            have hst := hstn
            clear hstn
            refine ⟨_, rfl, trivial, ?_⟩
            refine DRW.q rfl rfl (fun w' hF => runs_shl (n := 4) rfl rfl (by decide)) ?_
            refine DRW.call rfl rfl call19 rfl rfl (digit_spec hst b) ?_
            rintro e w ⟨rfl, hstn⟩
            clear hst
            have hst := hstn
            clear hstn
            refine ⟨_, rfl, trivial, ?_⟩
            refine DRW.q rfl rfl (fun w' hF => runs_or rfl rfl) ?_
            refine DRW.q rfl rfl (fun w' hF => runs_convB (by rw [Try.underlying3]; rfl) Try.underlying5 rfl) ?_
            rw [dig_or2 (by omega) (by omega)]
            refine DRW.opE rfl rfl (runs_litB (bs := [u8 (16 * digV a + digV b)]) rfl Try.underlying25 ti5 (by decide) rfl rfl rfl hst) ?_
            rintro u57 w ⟨J57, hJ57, hstn, h57⟩
            clear hst
            have hst := hstn
            clear hstn
            refine ⟨trivial, ?_⟩
            replace hle := hle.trans hJ57
            refine DRW.opE rfl rfl (runs_appendB Try.underlying25 ti5 rfl rfl hst hgo h57 (by simp only [List.length_cons, List.length_nil]; omega)) ?_
            rintro u58 w ⟨L58, hstn, hg58⟩
            clear hst
            have hst := hstn
            clear hstn
            refine ⟨trivial, ?_⟩
            refine DRW.q rfl rfl (fun w' hF => runs_assign rfl) ?_
            refine DRW.done ?_
            refine AQ.next ?_
            -- region 10
            refine CW.region ?_
            refine RW.op1 rfl (runs_move rfl) ?_
            refine RW.op1 rfl (runs_add rfl rfl (by omega)) ?_
            refine RW.op1 rfl (runs_assign rfl) ?_
            refine RW.done ?_
            refine AQ.block_normal ?_
            refine AQ.next ?_
            -- region 4
            refine CW.region ?_
            refine RW.op1 rfl (runs_move rfl) ?_
            refine RW.op1 rfl (runs_add rfl rfl (by omega)) ?_
            refine RW.op1 rfl (runs_assign rfl) ?_
            refine RW.done ?_
            exact AQ.again (x := (i, J, vo, Lo, out)) (i + 3, _, _, _, _) ⟨hst, hle, hg58, hd, by simp; omega⟩ ⟨rfl, rfl, rfl, trivial⟩ (by dsimp only; omega)
  · have hcb9 := hc9
    try simp only [decide_eq_true_eq, decide_eq_false_iff_not] at hc9
    have hdn : s.toList.drop i = [] := List.drop_eq_nil_of_le (by rw [size_toList]; omega)
    rw [hdn] at hd
    replace hd : decB s.toList = some (out ++ []) := hd
    rw [List.append_nil] at hd
    refine CW.exit ?_
    refine AQ.past_exit ?_
    refine AQ.past_exit ?_
    refine AQ.block_hit ?_
    refine AQ.next ?_
    refine CW.seq ?_
    -- region 11
    refine CW.region ?_
    obtain ⟨I12, hI12, hstn, hr12⟩ := GrowB.freeze hgo hst
    clear hst
    have hst := hstn
    clear hstn
    replace hle := hle.trans hI12
    refine RW.op1 rfl (runs_move rfl) ?_
    refine RW.op1 rfl (RdB.string Try.underlying25 Try.underlying5 Try.underlying9 rfl hr12 hst) ?_
    refine RW.op1 rfl (runs_assign rfl) ?_
    refine RW.op1 rfl (runs_assign rfl) ?_
    refine RW.done ?_
    refine AQ.next ?_
    refine CW.ret ?_
    refine AQ.ret2 rfl rfl rfl ?_
    exact ⟨I12, hle, by rw [hd]; rfl, hst⟩
set_option maxRecDepth 100000 in
set_option maxHeartbeats 1000000 in
theorem unpct_spec {w0 w : World} {I : Imm} {L : Own} (hst : St w0 w I L) (s : ByteArray) (hs : s.size ≤ 1000000000) :
    Calls Try.prog 15 #[.string s] w fun e w' => ∃ I', Imm.le I I' ∧ e = .returned (.tuple #[.string (strOf ((decB s.toList).getD [])), .bool (decB s.toList).isSome]) ∧ St w0 w' I' L := by
  refine enter Try.func15 rfl (N := 63) rfl rfl ?_
  simp only [List.zipIdx_cons, List.zipIdx_nil, List.map_cons, List.map_nil, Nat.zero_add, Nat.reduceAdd]
  have hle := Imm.le.refl I
  refine CW.seq ?_
  -- region 0
  refine CW.region ?_
  refine RW.op1 rfl (runs_assign rfl) ?_
  refine RW.op1 rfl (runs_assign rfl) ?_
  refine RW.done ?_
  refine AQ.next ?_
  refine CW.seq ?_
  -- region 1
  refine CW.region ?_
  refine RW.op1 rfl (runs_assign rfl) ?_
  refine RW.done ?_
  refine AQ.next ?_
  refine CW.seq ?_
  refine CW.seq ?_
  -- region 2
  refine CW.region ?_
  refine RW.op1 rfl (runs_assign rfl) ?_
  refine RW.done ?_
  refine AQ.next ?_
  refine CW.block ?_
  -- loop 1
  refine CW.loop (Nat × Imm × Value × Own × List UInt8) (fun x w => St w0 w x.2.1 (x.2.2.2.1 ++ L) ∧ I.le x.2.1 ∧ GrowB 5 x.2.2.1 x.2.2.2.2 x.2.2.2.1 ∧ decB s.toList = (decB (s.toList.drop x.1)).map (x.2.2.2.2 ++ ·) ∧ x.2.2.2.2.length ≤ x.1) (fun x => [(0, .string s), (4, x.2.2.1), (5, .int .i64 (x.1 : Nat))]) (fun x => s.size - x.1) ⟨(0, I, _, [], []), ⟨hst, Imm.le.refl _, GrowB.nil _, by rw [List.drop_zero]; cases decB s.toList <;> simp, Nat.le_refl _⟩, ⟨rfl, rfl, rfl, trivial⟩⟩ ?_
  rintro ⟨i, J, vo, Lo, out⟩ w ⟨hstn, hle, hgo, hd, hol⟩
  dsimp only at hstn hle hgo hd hol ⊢
  clear hst
  have hst := hstn
  clear hstn
  refine CW.seq ?_
  refine CW.seq ?_
  -- region 3
  refine CW.region ?_
  refine RW.op1 rfl (runs_move rfl) ?_
  refine RW.op1 rfl (runs_move rfl) ?_
  refine RW.op1 rfl (runs_lenS Try.underlying9 rfl) ?_
  refine RW.op1 rfl (runs_lss rfl rfl) ?_
  refine RW.done ?_
  refine AQ.next ?_
  refine CW.cond rfl (fun hc9 => ?_) (fun hc9 => ?_)
  · have hcb9 := hc9
    try simp only [decide_eq_true_eq, decide_eq_false_iff_not] at hc9
    have hi : i < s.size := by omega
    obtain ⟨c, hc⟩ : ∃ c, s.toList.getD i 0 = c := ⟨_, rfl⟩
    have hds := drop_step hi
    rw [hc] at hds
    rw [hds] at hd
    have hcl := c.toNat_lt
    refine CW.skip ?_
    refine AQ.next ?_
    refine CW.seq ?_
    refine CW.block ?_
    refine CW.seq ?_
    refine CW.seq ?_
    -- region 5
    refine CW.region ?_
    refine RW.op1 rfl (runs_move rfl) ?_
    refine RW.op1 rfl (runs_move rfl) ?_
    refine RW.op1 rfl (runs_indexL Try.underlying9 rfl rfl (by omega) (by omega)) ?_
    rw [show ((i : Nat) : Int).toNat = i from Int.toNat_natCast i, hc]
    refine RW.op1 rfl (runs_neI rfl rfl) ?_
    refine RW.done ?_
    refine AQ.next ?_
    refine CW.cond rfl (fun hc15 => ?_) (fun hc15 => ?_)
    · have hcb15 := hc15
      try simp only [decide_eq_true_eq, decide_eq_false_iff_not] at hc15
      rw [decB_plain hc15, dec_go] at hd
      refine CW.seq ?_
      -- region 6
      refine CW.region ?_
      refine RW.op1 rfl (runs_move rfl) ?_
      refine RW.op1 rfl (runs_move rfl) ?_
      refine RW.op1 rfl (runs_move rfl) ?_
      refine RW.op1 rfl (runs_indexL Try.underlying9 rfl rfl (by omega) (by omega)) ?_
      rw [show ((i : Nat) : Int).toNat = i from Int.toNat_natCast i, hc]
      refine RW.opE rfl (runs_litB (bs := [c]) rfl Try.underlying25 ti5 (by decide) rfl rfl rfl hst) ?_
      rintro u20 w ⟨J20, hJ20, hstn, h20⟩
      clear hst
      have hst := hstn
      clear hstn
      replace hle := hle.trans hJ20
      refine RW.opE rfl (runs_appendB Try.underlying25 ti5 rfl rfl hst hgo h20 (by simp only [List.length_cons, List.length_nil]; omega)) ?_
      rintro u21 w ⟨L21, hstn, hg21⟩
      clear hst
      have hst := hstn
      clear hstn
      refine RW.op1 rfl (runs_assign rfl) ?_
      refine RW.done ?_
      refine AQ.next ?_
      refine CW.exit ?_
      refine AQ.past_exit ?_
      refine AQ.block_hit ?_
      refine AQ.next ?_
      -- region 4
      refine CW.region ?_
      refine RW.op1 rfl (runs_move rfl) ?_
      refine RW.op1 rfl (runs_add rfl rfl (by omega)) ?_
      refine RW.op1 rfl (runs_assign rfl) ?_
      refine RW.done ?_
      exact AQ.again (x := (i, J, vo, Lo, out)) (i + 1, _, _, _, _) ⟨hst, hle, hg21, hd, by simp; omega⟩ ⟨rfl, rfl, rfl, trivial⟩ (by dsimp only; omega)
    · have hcb15 := hc15
      try simp only [decide_eq_true_eq, decide_eq_false_iff_not] at hc15
      obtain rfl := is37 hc15
      refine CW.skip ?_
      refine AQ.next ?_
      refine CW.seq ?_
      refine CW.seq ?_
      -- region 7
      refine CW.region ?_
      refine RW.op1 rfl (runs_move rfl) ?_
      refine RW.op1 rfl (runs_add rfl rfl (by omega)) ?_
      refine RW.op1 rfl (runs_move rfl) ?_
      refine RW.op1 rfl (runs_lenS Try.underlying9 rfl) ?_
      refine RW.op1 rfl (runs_geq rfl rfl) ?_
      refine RW.op1 rfl (runs_move rfl) ?_
      refine RW.split (t := 27) rfl (fun hb27 => ?_) (fun hb27 => ?_)
      · have hb27p := hb27
        try simp only [decide_eq_true_eq, decide_eq_false_iff_not] at hb27p
        have hnone : decB s.toList = none := by rw [hd, decB_short (by rw [List.length_drop, size_toList]; omega)]; rfl
        refine RW.off_guard rfl rfl rfl rfl hb27 ?_
        refine RW.off_guard rfl rfl rfl rfl hb27 ?_
        refine RW.off_guard rfl rfl rfl rfl hb27 ?_
        refine RW.off_guard rfl rfl rfl rfl hb27 ?_
        refine RW.off_guard rfl rfl rfl rfl hb27 ?_
        refine RW.off_guard rfl rfl rfl rfl hb27 ?_
        refine RW.op1 rfl (runs_pick_true rfl hb27 rfl) ?_
        refine RW.op1 rfl (runs_move rfl) ?_
        refine RW.off_guard rfl rfl rfl rfl rfl ?_
        refine RW.off_guard rfl rfl rfl rfl rfl ?_
        refine RW.off_guard rfl rfl rfl rfl rfl ?_
        refine RW.off_guard rfl rfl rfl rfl rfl ?_
        refine RW.off_guard rfl rfl rfl rfl rfl ?_
        refine RW.off_guard rfl rfl rfl rfl rfl ?_
        refine RW.op1 rfl (runs_pick_true rfl rfl rfl) ?_
        refine RW.done ?_
        refine AQ.next ?_
        have hnone : decB s.toList = none := by first | assumption | (rw [hd, decB_bad (.inr (by omega))]; rfl)
        refine CW.cond_true rfl ?_
        refine CW.seq ?_
        -- region 8
        refine CW.region ?_
        refine RW.op1 rfl (runs_assign rfl) ?_
        refine RW.op1 rfl (runs_assign rfl) ?_
        refine RW.done ?_
        refine AQ.next ?_
        refine CW.ret ?_
        refine AQ.past_ret ?_
        refine AQ.block_ret ?_
        refine AQ.past_ret ?_
        refine AQ.past_ret ?_
        refine AQ.block_ret ?_
        refine AQ.past_ret ?_
        refine AQ.ret2 rfl rfl rfl ?_
        exact ⟨_, hle, by rw [hnone]; rfl, hst.sub (List.sublist_append_right _ _)⟩
      · have hb27p := hb27
        try simp only [decide_eq_true_eq, decide_eq_false_iff_not] at hb27p
        obtain ⟨a, ha⟩ : ∃ a, s.toList.getD (i + 1) 0 = a := ⟨_, rfl⟩
        obtain ⟨b, hb⟩ : ∃ b, s.toList.getD (i + 2) 0 = b := ⟨_, rfl⟩
        have hd1 := drop_step (s := s) (i := i + 1) (by omega)
        have hd2 := drop_step (s := s) (i := i + 1 + 1) (by omega)
        rw [ha] at hd1
        rw [show s.toList.getD (i + 1 + 1) 0 = b from hb] at hd2
        rw [hd1, hd2] at hd
        have hda := digV_le a
        have hdb := digV_le b
        have hal := a.toNat_lt
        have hbl := b.toNat_lt
        refine RW.on_guard rfl rfl rfl rfl hb27 ?_
        refine RW.op1 rfl (runs_move rfl) ?_
        refine RW.on_guard rfl rfl rfl rfl hb27 ?_
        refine RW.op1 rfl (runs_move rfl) ?_
        refine RW.on_guard rfl rfl rfl rfl hb27 ?_
        refine RW.op1 rfl (runs_add rfl rfl (by omega)) ?_
        refine RW.on_guard rfl rfl rfl rfl hb27 ?_
        refine RW.op1 rfl (runs_indexL Try.underlying9 rfl rfl (by omega) (by omega)) ?_
        rw [show ((i : Int) + 1).toNat = i + 1 by omega, ha]
        refine RW.on_guard rfl rfl rfl rfl hb27 ?_
        refine RW.call rfl call20 rfl rfl (rdigit_spec hst a) ?_
        rintro e w ⟨rfl, hstn⟩
        clear hst
        have hst := hstn
        clear hstn
        refine ⟨_, rfl, ?_⟩
        refine RW.on_guard rfl rfl rfl rfl hb27 ?_
        refine RW.op1 rfl (runs_lss rfl rfl) ?_
        refine RW.op1 rfl (runs_pick_false rfl hb27 rfl) ?_
        refine RW.op1 rfl (runs_move rfl) ?_
        refine RW.split (t := 35) rfl (fun hb35 => ?_) (fun hb35 => ?_)
        · have hb35p := hb35
          try simp only [decide_eq_true_eq, decide_eq_false_iff_not] at hb35p
          have hnone : decB s.toList = none := by rw [hd, decB_bad (.inl (by omega))]; rfl
          refine RW.off_guard rfl rfl rfl rfl hb35 ?_
          refine RW.off_guard rfl rfl rfl rfl hb35 ?_
          refine RW.off_guard rfl rfl rfl rfl hb35 ?_
          refine RW.off_guard rfl rfl rfl rfl hb35 ?_
          refine RW.off_guard rfl rfl rfl rfl hb35 ?_
          refine RW.off_guard rfl rfl rfl rfl hb35 ?_
          refine RW.op1 rfl (runs_pick_true rfl hb35 rfl) ?_
          refine RW.done ?_
          refine AQ.next ?_
          have hnone : decB s.toList = none := by first | assumption | (rw [hd, decB_bad (.inr (by omega))]; rfl)
          refine CW.cond_true rfl ?_
          refine CW.seq ?_
          -- region 8
          refine CW.region ?_
          refine RW.op1 rfl (runs_assign rfl) ?_
          refine RW.op1 rfl (runs_assign rfl) ?_
          refine RW.done ?_
          refine AQ.next ?_
          refine CW.ret ?_
          refine AQ.past_ret ?_
          refine AQ.block_ret ?_
          refine AQ.past_ret ?_
          refine AQ.past_ret ?_
          refine AQ.block_ret ?_
          refine AQ.past_ret ?_
          refine AQ.ret2 rfl rfl rfl ?_
          exact ⟨_, hle, by rw [hnone]; rfl, hst.sub (List.sublist_append_right _ _)⟩
        · have hb35p := hb35
          try simp only [decide_eq_true_eq, decide_eq_false_iff_not] at hb35p
          skip
          refine RW.on_guard rfl rfl rfl rfl hb35 ?_
          refine RW.op1 rfl (runs_move rfl) ?_
          refine RW.on_guard rfl rfl rfl rfl hb35 ?_
          refine RW.op1 rfl (runs_move rfl) ?_
          refine RW.on_guard rfl rfl rfl rfl hb35 ?_
          refine RW.op1 rfl (runs_add rfl rfl (by omega)) ?_
          refine RW.on_guard rfl rfl rfl rfl hb35 ?_
          refine RW.op1 rfl (runs_indexL Try.underlying9 rfl rfl (by omega) (by omega)) ?_
          rw [show ((i : Int) + 2).toNat = i + 2 by omega, hb]
          refine RW.on_guard rfl rfl rfl rfl hb35 ?_
          refine RW.call rfl call20 rfl rfl (rdigit_spec hst b) ?_
          rintro e w ⟨rfl, hstn⟩
          clear hst
          have hst := hstn
          clear hstn
          refine ⟨_, rfl, ?_⟩
          refine RW.on_guard rfl rfl rfl rfl hb35 ?_
          refine RW.op1 rfl (runs_lss rfl rfl) ?_
          refine RW.op1 rfl (runs_pick_false rfl hb35 rfl) ?_
          refine RW.done ?_
          refine AQ.next ?_
          refine CW.cond rfl (fun hc42 => ?_) (fun hc42 => ?_)
          · have hcb42 := hc42
            try simp only [decide_eq_true_eq, decide_eq_false_iff_not] at hc42
            have hnone : decB s.toList = none := by first | assumption | (rw [hd, decB_bad (.inr (by omega))]; rfl)
            refine CW.seq ?_
            -- region 8
            refine CW.region ?_
            refine RW.op1 rfl (runs_assign rfl) ?_
            refine RW.op1 rfl (runs_assign rfl) ?_
            refine RW.done ?_
            refine AQ.next ?_
            refine CW.ret ?_
            refine AQ.past_ret ?_
            refine AQ.block_ret ?_
            refine AQ.past_ret ?_
            refine AQ.past_ret ?_
            refine AQ.block_ret ?_
            refine AQ.past_ret ?_
            refine AQ.ret2 rfl rfl rfl ?_
            exact ⟨_, hle, by rw [hnone]; rfl, hst.sub (List.sublist_append_right _ _)⟩
          · have hcb42 := hc42
            try simp only [decide_eq_true_eq, decide_eq_false_iff_not] at hc42
            rw [decB_pct (by omega) (by omega), dec_go] at hd
            refine CW.skip ?_
            refine AQ.next ?_
            refine CW.seq ?_
            -- region 9
            refine CW.draw (fun _ => True) (.q 0 (.q 1 (.q 2 (.q 3 (.q 4 (.q 7 (.q 8 (.q 9 (.q 10 (.l 5 (.q 6 (.l 11 (.q 12 (.q 13 (.l 14 (.l 15 (.q 16 .nil))))))))))))))))) follows (by kernel_rfl) trivial ?_
            replace hst := hst.draw
            refine DRW.q rfl rfl (fun w' hF => runs_move rfl) ?_
            refine DRW.q rfl rfl (fun w' hF => runs_move rfl) ?_
            refine DRW.q rfl rfl (fun w' hF => runs_move rfl) ?_
            refine DRW.q rfl rfl (fun w' hF => runs_add rfl rfl (by omega)) ?_
            refine DRW.q rfl rfl (fun w' hF => runs_indexL Try.underlying9 rfl rfl (by omega) (by omega)) ?_
            rw [show ((i : Int) + 1).toNat = i + 1 by omega, ha]
            refine DRW.q rfl rfl (fun w' hF => runs_move rfl) ?_
            refine DRW.q rfl rfl (fun w' hF => runs_move rfl) ?_
            refine DRW.q rfl rfl (fun w' hF => runs_add rfl rfl (by omega)) ?_
            refine DRW.q rfl rfl (fun w' hF => runs_indexL Try.underlying9 rfl rfl (by omega) (by omega)) ?_
            rw [show ((i : Int) + 2).toNat = i + 2 by omega, hb]
            refine DRW.call rfl rfl call20 rfl rfl (rdigit_spec hst a) ?_
            rintro e w ⟨rfl, hstn⟩
            clear hst
            have hst := hstn
            clear hstn
            refine ⟨_, rfl, trivial, ?_⟩
            refine DRW.q rfl rfl (fun w' hF => runs_mul rfl rfl (by omega)) ?_
            refine DRW.call rfl rfl call20 rfl rfl (rdigit_spec hst b) ?_
            rintro e w ⟨rfl, hstn⟩
            clear hst
            have hst := hstn
            clear hstn
            refine ⟨_, rfl, trivial, ?_⟩
            refine DRW.q rfl rfl (fun w' hF => runs_add rfl rfl (by omega)) ?_
            refine DRW.q rfl rfl (fun w' hF => runs_convB (by rw [Try.underlying3]; rfl) Try.underlying5 rfl) ?_
            skip
            refine DRW.opE rfl rfl (runs_litB (bs := [u8 (16 * digV a + digV b)]) rfl Try.underlying25 ti5 (by decide) rfl rfl rfl hst) ?_
            rintro u57 w ⟨J57, hJ57, hstn, h57⟩
            clear hst
            have hst := hstn
            clear hstn
            refine ⟨trivial, ?_⟩
            replace hle := hle.trans hJ57
            refine DRW.opE rfl rfl (runs_appendB Try.underlying25 ti5 rfl rfl hst hgo h57 (by simp only [List.length_cons, List.length_nil]; omega)) ?_
            rintro u58 w ⟨L58, hstn, hg58⟩
            clear hst
            have hst := hstn
            clear hstn
            refine ⟨trivial, ?_⟩
            refine DRW.q rfl rfl (fun w' hF => runs_assign rfl) ?_
            refine DRW.done ?_
            refine AQ.next ?_
            -- region 10
            refine CW.region ?_
            refine RW.op1 rfl (runs_move rfl) ?_
            refine RW.op1 rfl (runs_add rfl rfl (by omega)) ?_
            refine RW.op1 rfl (runs_assign rfl) ?_
            refine RW.done ?_
            refine AQ.block_normal ?_
            refine AQ.next ?_
            -- region 4
            refine CW.region ?_
            refine RW.op1 rfl (runs_move rfl) ?_
            refine RW.op1 rfl (runs_add rfl rfl (by omega)) ?_
            refine RW.op1 rfl (runs_assign rfl) ?_
            refine RW.done ?_
            exact AQ.again (x := (i, J, vo, Lo, out)) (i + 3, _, _, _, _) ⟨hst, hle, hg58, hd, by simp; omega⟩ ⟨rfl, rfl, rfl, trivial⟩ (by dsimp only; omega)
  · have hcb9 := hc9
    try simp only [decide_eq_true_eq, decide_eq_false_iff_not] at hc9
    have hdn : s.toList.drop i = [] := List.drop_eq_nil_of_le (by rw [size_toList]; omega)
    rw [hdn] at hd
    replace hd : decB s.toList = some (out ++ []) := hd
    rw [List.append_nil] at hd
    refine CW.exit ?_
    refine AQ.past_exit ?_
    refine AQ.past_exit ?_
    refine AQ.block_hit ?_
    refine AQ.next ?_
    refine CW.seq ?_
    -- region 11
    refine CW.region ?_
    obtain ⟨I12, hI12, hstn, hr12⟩ := GrowB.freeze hgo hst
    clear hst
    have hst := hstn
    clear hstn
    replace hle := hle.trans hI12
    refine RW.op1 rfl (runs_move rfl) ?_
    refine RW.op1 rfl (RdB.string Try.underlying25 Try.underlying5 Try.underlying9 rfl hr12 hst) ?_
    refine RW.op1 rfl (runs_assign rfl) ?_
    refine RW.op1 rfl (runs_assign rfl) ?_
    refine RW.done ?_
    refine AQ.next ?_
    refine CW.ret ?_
    refine AQ.ret2 rfl rfl rfl ?_
    exact ⟨I12, hle, by rw [hd]; rfl, hst⟩
theorem goL_1 {l : List UInt8} (h : ¬ ((l.length : Nat) : Int) > 0) : false = goL l := by
  unfold goL
  rw [decide_eq_false (show ¬ 0 < l.length by omega), Bool.false_and]
theorem goR_1 {l : List UInt8} (h : ¬ ((l.length : Nat) : Int) > 0) : false = goR l := by
  unfold goR
  rw [decide_eq_false (show ¬ 0 < l.length by omega), Bool.false_and]
theorem goL_2 {l : List UInt8} (h : ((l.length : Nat) : Int) > 0) : decide (((l.getD ((0 : Int)).toNat 0).toNat : Int) ≤ 32) = goL l := by
  unfold goL
  rw [decide_eq_true (show 0 < l.length by omega), Bool.true_and]
  exact decide_eq_decide.2 ⟨fun h => Int.ofNat_le.1 h, fun h => Int.ofNat_le.2 h⟩
theorem goR_2 {l : List UInt8} {n : Nat} (hn : l.length = n) (h : ((l.length : Nat) : Int) > 0) : decide (((l.getD (((n : Nat) : Int) - 1).toNat 0).toNat : Int) ≤ 32) = goR l := by
  subst hn
  unfold goR
  rw [decide_eq_true (show 0 < l.length by omega), Bool.true_and, show (((l.length : Nat) : Int) - 1).toNat = l.length - 1 by omega]
  exact decide_eq_decide.2 ⟨fun h => Int.ofNat_le.1 h, fun h => Int.ofNat_le.2 h⟩
theorem goL_pos {l : List UInt8} (h : goL l = true) : 0 < l.length := by unfold goL at h; simp at h; omega
theorem goR_pos {l : List UInt8} (h : goR l = true) : 0 < l.length := by unfold goR at h; simp at h; omega
set_option maxRecDepth 100000 in
set_option maxHeartbeats 1000000 in
theorem trim_spec {w0 w : World} {I : Imm} {L : Own} (hst : St w0 w I L) (s : ByteArray) (hs : s.size ≤ 9223372036854775807) :
    Calls Try.prog 13 #[.string s] w fun e w' => e = .returned (.string (strOf (trimB s.toList))) ∧ St w0 w' I L := by
  refine enter Try.func13 rfl (N := 30) rfl rfl ?_
  simp only [List.zipIdx_cons, List.zipIdx_nil, List.map_cons, List.map_nil, Nat.zero_add, Nat.reduceAdd]
  have hle := Imm.le.refl I
  refine CW.seq ?_
  -- region 0
  refine CW.region ?_
  refine RW.op1 rfl (runs_assign rfl) ?_
  refine RW.done ?_
  refine AQ.next ?_
  refine CW.seq ?_
  refine CW.block ?_
  -- loop 1
  refine CW.loop ByteArray (fun t w => St w0 w I L ∧ trimL t.toList = trimL s.toList ∧ t.size ≤ s.size) (fun t => [(0, .string t)]) (fun t => t.size) ⟨s, ⟨hst, rfl, Nat.le_refl _⟩, ⟨rfl, trivial⟩⟩ ?_
  rintro t w ⟨hstn, htl, hts⟩
  clear hst
  have hst := hstn
  clear hstn
  have htz := size_toList t
  refine CW.seq ?_
  refine CW.seq ?_
  -- region 1
  refine CW.cut Unit (fun _ w => St w0 w I L) (fun _ => [(0, .string t), (10, .bool (goL t.toList))]) ?_ ?_
  · -- region 1
    refine CW.region ?_
    refine RW.op1 rfl (runs_move rfl) ?_
    refine RW.op1 rfl (runs_lenS Try.underlying9 rfl) ?_
    refine RW.op1 rfl (runs_gtr rfl rfl) ?_
    refine RW.op1 rfl (runs_move rfl) ?_
    refine RW.split (t := 6) rfl (fun hb6 => ?_) (fun hb6 => ?_)
    · have hb6p := hb6
      try simp only [decide_eq_true_eq, decide_eq_false_iff_not] at hb6p
      refine RW.on_guard rfl rfl rfl rfl hb6 ?_
      refine RW.op1 rfl (runs_move rfl) ?_
      refine RW.on_guard rfl rfl rfl rfl hb6 ?_
      refine RW.op1 rfl (runs_indexL Try.underlying9 rfl rfl (by omega) (by omega)) ?_
      refine RW.on_guard rfl rfl rfl rfl hb6 ?_
      refine RW.op1 rfl (runs_leq rfl rfl) ?_
      refine RW.op1 rfl (runs_pick_true rfl hb6 rfl) ?_
      refine RW.done ?_
      first
        | exact AQ.meet () hst ⟨rfl, congrArg (fun z => some (Value.bool z)) (goL_1 (by omega)), trivial⟩
        | exact AQ.meet () hst ⟨rfl, congrArg (fun z => some (Value.bool z)) (goL_2 (by omega)), trivial⟩
    · have hb6p := hb6
      try simp only [decide_eq_true_eq, decide_eq_false_iff_not] at hb6p
      refine RW.off_guard rfl rfl rfl rfl hb6 ?_
      refine RW.off_guard rfl rfl rfl rfl hb6 ?_
      refine RW.off_guard rfl rfl rfl rfl hb6 ?_
      refine RW.op1 rfl (runs_pick_false rfl hb6 rfl) ?_
      refine RW.done ?_
      first
        | exact AQ.meet () hst ⟨rfl, congrArg (fun z => some (Value.bool z)) (goL_1 (by omega)), trivial⟩
        | exact AQ.meet () hst ⟨rfl, congrArg (fun z => some (Value.bool z)) (goL_2 (by omega)), trivial⟩
  · rintro _ w hstn
    clear hst
    have hst := hstn
    clear hstn
    refine AQ.next ?_
    refine CW.cond rfl (fun hc10 => ?_) (fun hc10 => ?_)
    · have hcb10 := hc10
      try simp only [decide_eq_true_eq, decide_eq_false_iff_not] at hc10
      have hpos := goL_pos hcb10
      rw [htz] at hpos
      refine CW.skip ?_
      refine AQ.next ?_
      refine CW.block ?_
      -- region 2
      refine CW.region ?_
      refine RW.op1 rfl (runs_move rfl) ?_
      refine RW.op1 rfl (runs_sliceS_l Try.underlying9 rfl rfl (by omega)) ?_
      refine RW.op1 rfl (runs_assign rfl) ?_
      refine RW.done ?_
      refine AQ.block_normal ?_
      have he : (t.extract ((1 : Int)).toNat t.size).toList = t.toList.drop 1 := by
        rw [extract_list]
        exact List.take_of_length_le (by rw [List.length_drop, htz]; exact Nat.le_refl _)
      have hz := size_toList (t.extract ((1 : Int)).toNat t.size)
      rw [he, List.length_drop] at hz
      exact AQ.again (x := t) _ ⟨hst, by rw [he, trimL_go hcb10, htl], by omega⟩ ⟨rfl, trivial⟩ (by omega)
    · have hcb10 := hc10
      try simp only [decide_eq_true_eq, decide_eq_false_iff_not] at hc10
      skip
      refine CW.exit ?_
      refine AQ.past_exit ?_
      refine AQ.past_exit ?_
      refine AQ.block_hit ?_
      refine AQ.next ?_
      refine CW.seq ?_
      refine CW.block ?_
      -- loop 2
      have hb2 := trimB_of hcb10 htl (by rw [htz, size_toList]; exact hts)
      have hts0 := hts
      refine CW.loop ByteArray (fun u w => St w0 w I L ∧ trimR u.toList.length u.toList = trimB s.toList ∧ u.size ≤ s.size) (fun u => [(0, .string u)]) (fun u => u.size) ⟨t, ⟨hst, hb2, hts⟩, ⟨rfl, trivial⟩⟩ ?_
      clear hb2 hts
      rintro u w ⟨hstn, hul, hus⟩
      clear hst
      have hst := hstn
      clear hstn
      have huz := size_toList u
      refine CW.seq ?_
      refine CW.seq ?_
      -- region 3
      refine CW.cut Unit (fun _ w => St w0 w I L) (fun _ => [(0, .string u), (23, .bool (goR u.toList))]) ?_ ?_
      · -- region 3
        refine CW.region ?_
        refine RW.op1 rfl (runs_move rfl) ?_
        refine RW.op1 rfl (runs_lenS Try.underlying9 rfl) ?_
        refine RW.op1 rfl (runs_gtr rfl rfl) ?_
        refine RW.op1 rfl (runs_move rfl) ?_
        refine RW.split (t := 16) rfl (fun hb16 => ?_) (fun hb16 => ?_)
        · have hb16p := hb16
          try simp only [decide_eq_true_eq, decide_eq_false_iff_not] at hb16p
          refine RW.on_guard rfl rfl rfl rfl hb16 ?_
          refine RW.op1 rfl (runs_move rfl) ?_
          refine RW.on_guard rfl rfl rfl rfl hb16 ?_
          refine RW.op1 rfl (runs_move rfl) ?_
          refine RW.on_guard rfl rfl rfl rfl hb16 ?_
          refine RW.op1 rfl (runs_lenS Try.underlying9 rfl) ?_
          refine RW.on_guard rfl rfl rfl rfl hb16 ?_
          refine RW.op1 rfl (runs_sub rfl rfl (by omega)) ?_
          refine RW.on_guard rfl rfl rfl rfl hb16 ?_
          refine RW.op1 rfl (runs_indexL Try.underlying9 rfl rfl (by omega) (by omega)) ?_
          refine RW.on_guard rfl rfl rfl rfl hb16 ?_
          refine RW.op1 rfl (runs_leq rfl rfl) ?_
          refine RW.op1 rfl (runs_pick_true rfl hb16 rfl) ?_
          refine RW.done ?_
          first
            | exact AQ.meet () hst ⟨rfl, congrArg (fun z => some (Value.bool z)) (goR_1 (by omega)), trivial⟩
            | exact AQ.meet () hst ⟨rfl, congrArg (fun z => some (Value.bool z)) (goR_2 huz (by omega)), trivial⟩
        · have hb16p := hb16
          try simp only [decide_eq_true_eq, decide_eq_false_iff_not] at hb16p
          refine RW.off_guard rfl rfl rfl rfl hb16 ?_
          refine RW.off_guard rfl rfl rfl rfl hb16 ?_
          refine RW.off_guard rfl rfl rfl rfl hb16 ?_
          refine RW.off_guard rfl rfl rfl rfl hb16 ?_
          refine RW.off_guard rfl rfl rfl rfl hb16 ?_
          refine RW.off_guard rfl rfl rfl rfl hb16 ?_
          refine RW.op1 rfl (runs_pick_false rfl hb16 rfl) ?_
          refine RW.done ?_
          first
            | exact AQ.meet () hst ⟨rfl, congrArg (fun z => some (Value.bool z)) (goR_1 (by omega)), trivial⟩
            | exact AQ.meet () hst ⟨rfl, congrArg (fun z => some (Value.bool z)) (goR_2 huz (by omega)), trivial⟩
      · rintro _ w hstn
        clear hst
        have hst := hstn
        clear hstn
        refine AQ.next ?_
        refine CW.cond rfl (fun hc23 => ?_) (fun hc23 => ?_)
        · have hcb23 := hc23
          try simp only [decide_eq_true_eq, decide_eq_false_iff_not] at hc23
          have hpos := goR_pos hcb23
          rw [huz] at hpos
          refine CW.skip ?_
          refine AQ.next ?_
          refine CW.block ?_
          -- region 4
          refine CW.region ?_
          refine RW.op1 rfl (runs_move rfl) ?_
          refine RW.op1 rfl (runs_move rfl) ?_
          refine RW.op1 rfl (runs_lenS Try.underlying9 rfl) ?_
          refine RW.op1 rfl (runs_sub rfl rfl (by omega)) ?_
          refine RW.op1 rfl (runs_sliceS_h Try.underlying9 rfl rfl (by omega)) ?_
          refine RW.op1 rfl (runs_assign rfl) ?_
          refine RW.done ?_
          refine AQ.block_normal ?_
          have he : (u.extract 0 (((u.size : Nat) : Int) - 1).toNat).toList = u.toList.take (u.toList.length - 1) := by
            rw [extract_list, List.drop_zero, huz]
            congr 1
            omega
          have hz := size_toList (u.extract 0 (((u.size : Nat) : Int) - 1).toNat)
          rw [he, List.length_take] at hz
          exact AQ.again (x := u) _ ⟨hst, by rw [he, trimR_go hcb23, hul], by omega⟩ ⟨rfl, trivial⟩ (by omega)
        · have hcb23 := hc23
          try simp only [decide_eq_true_eq, decide_eq_false_iff_not] at hc23
          rw [trimR_stop hcb23] at hul
          refine CW.exit ?_
          refine AQ.past_exit ?_
          refine AQ.past_exit ?_
          refine AQ.block_hit ?_
          refine AQ.next ?_
          refine CW.seq ?_
          -- region 5
          refine CW.region ?_
          refine RW.op1 rfl (runs_move rfl) ?_
          refine RW.op1 rfl (runs_assign rfl) ?_
          refine RW.done ?_
          refine AQ.next ?_
          refine CW.ret ?_
          refine AQ.ret1 rfl rfl ?_
          exact ⟨by rw [← hul, strOf_of], hst⟩
set_option maxRecDepth 100000 in
set_option maxHeartbeats 1000000 in
theorem rtrim_spec {w0 w : World} {I : Imm} {L : Own} (hst : St w0 w I L) (s : ByteArray) (hs : s.size ≤ 9223372036854775807) :
    Calls Try.prog 17 #[.string s] w fun e w' => e = .returned (.string (strOf (trimB s.toList))) ∧ St w0 w' I L := by
  refine enter Try.func17 rfl (N := 30) rfl rfl ?_
  simp only [List.zipIdx_cons, List.zipIdx_nil, List.map_cons, List.map_nil, Nat.zero_add, Nat.reduceAdd]
  have hle := Imm.le.refl I
  refine CW.seq ?_
  -- region 0
  refine CW.region ?_
  refine RW.op1 rfl (runs_assign rfl) ?_
  refine RW.done ?_
  refine AQ.next ?_
  refine CW.seq ?_
  refine CW.block ?_
  -- loop 1
  refine CW.loop ByteArray (fun t w => St w0 w I L ∧ trimL t.toList = trimL s.toList ∧ t.size ≤ s.size) (fun t => [(0, .string t)]) (fun t => t.size) ⟨s, ⟨hst, rfl, Nat.le_refl _⟩, ⟨rfl, trivial⟩⟩ ?_
  rintro t w ⟨hstn, htl, hts⟩
  clear hst
  have hst := hstn
  clear hstn
  have htz := size_toList t
  refine CW.seq ?_
  refine CW.seq ?_
  -- region 1
  refine CW.cut Unit (fun _ w => St w0 w I L) (fun _ => [(0, .string t), (10, .bool (goL t.toList))]) ?_ ?_
  · -- region 1
    refine CW.region ?_
    refine RW.op1 rfl (runs_move rfl) ?_
    refine RW.op1 rfl (runs_lenS Try.underlying9 rfl) ?_
    refine RW.op1 rfl (runs_gtr rfl rfl) ?_
    refine RW.op1 rfl (runs_move rfl) ?_
    refine RW.split (t := 6) rfl (fun hb6 => ?_) (fun hb6 => ?_)
    · have hb6p := hb6
      try simp only [decide_eq_true_eq, decide_eq_false_iff_not] at hb6p
      refine RW.on_guard rfl rfl rfl rfl hb6 ?_
      refine RW.op1 rfl (runs_move rfl) ?_
      refine RW.on_guard rfl rfl rfl rfl hb6 ?_
      refine RW.op1 rfl (runs_indexL Try.underlying9 rfl rfl (by omega) (by omega)) ?_
      refine RW.on_guard rfl rfl rfl rfl hb6 ?_
      refine RW.op1 rfl (runs_leq rfl rfl) ?_
      refine RW.op1 rfl (runs_pick_true rfl hb6 rfl) ?_
      refine RW.done ?_
      first
        | exact AQ.meet () hst ⟨rfl, congrArg (fun z => some (Value.bool z)) (goL_1 (by omega)), trivial⟩
        | exact AQ.meet () hst ⟨rfl, congrArg (fun z => some (Value.bool z)) (goL_2 (by omega)), trivial⟩
    · have hb6p := hb6
      try simp only [decide_eq_true_eq, decide_eq_false_iff_not] at hb6p
      refine RW.off_guard rfl rfl rfl rfl hb6 ?_
      refine RW.off_guard rfl rfl rfl rfl hb6 ?_
      refine RW.off_guard rfl rfl rfl rfl hb6 ?_
      refine RW.op1 rfl (runs_pick_false rfl hb6 rfl) ?_
      refine RW.done ?_
      first
        | exact AQ.meet () hst ⟨rfl, congrArg (fun z => some (Value.bool z)) (goL_1 (by omega)), trivial⟩
        | exact AQ.meet () hst ⟨rfl, congrArg (fun z => some (Value.bool z)) (goL_2 (by omega)), trivial⟩
  · rintro _ w hstn
    clear hst
    have hst := hstn
    clear hstn
    refine AQ.next ?_
    refine CW.cond rfl (fun hc10 => ?_) (fun hc10 => ?_)
    · have hcb10 := hc10
      try simp only [decide_eq_true_eq, decide_eq_false_iff_not] at hc10
      have hpos := goL_pos hcb10
      rw [htz] at hpos
      refine CW.skip ?_
      refine AQ.next ?_
      refine CW.block ?_
      -- region 2
      refine CW.region ?_
      refine RW.op1 rfl (runs_move rfl) ?_
      refine RW.op1 rfl (runs_sliceS_l Try.underlying9 rfl rfl (by omega)) ?_
      refine RW.op1 rfl (runs_assign rfl) ?_
      refine RW.done ?_
      refine AQ.block_normal ?_
      have he : (t.extract ((1 : Int)).toNat t.size).toList = t.toList.drop 1 := by
        rw [extract_list]
        exact List.take_of_length_le (by rw [List.length_drop, htz]; exact Nat.le_refl _)
      have hz := size_toList (t.extract ((1 : Int)).toNat t.size)
      rw [he, List.length_drop] at hz
      exact AQ.again (x := t) _ ⟨hst, by rw [he, trimL_go hcb10, htl], by omega⟩ ⟨rfl, trivial⟩ (by omega)
    · have hcb10 := hc10
      try simp only [decide_eq_true_eq, decide_eq_false_iff_not] at hc10
      skip
      refine CW.exit ?_
      refine AQ.past_exit ?_
      refine AQ.past_exit ?_
      refine AQ.block_hit ?_
      refine AQ.next ?_
      refine CW.seq ?_
      refine CW.block ?_
      -- loop 2
      have hb2 := trimB_of hcb10 htl (by rw [htz, size_toList]; exact hts)
      have hts0 := hts
      refine CW.loop ByteArray (fun u w => St w0 w I L ∧ trimR u.toList.length u.toList = trimB s.toList ∧ u.size ≤ s.size) (fun u => [(0, .string u)]) (fun u => u.size) ⟨t, ⟨hst, hb2, hts⟩, ⟨rfl, trivial⟩⟩ ?_
      clear hb2 hts
      rintro u w ⟨hstn, hul, hus⟩
      clear hst
      have hst := hstn
      clear hstn
      have huz := size_toList u
      refine CW.seq ?_
      refine CW.seq ?_
      -- region 3
      refine CW.cut Unit (fun _ w => St w0 w I L) (fun _ => [(0, .string u), (23, .bool (goR u.toList))]) ?_ ?_
      · -- region 3
        refine CW.region ?_
        refine RW.op1 rfl (runs_move rfl) ?_
        refine RW.op1 rfl (runs_lenS Try.underlying9 rfl) ?_
        refine RW.op1 rfl (runs_gtr rfl rfl) ?_
        refine RW.op1 rfl (runs_move rfl) ?_
        refine RW.split (t := 16) rfl (fun hb16 => ?_) (fun hb16 => ?_)
        · have hb16p := hb16
          try simp only [decide_eq_true_eq, decide_eq_false_iff_not] at hb16p
          refine RW.on_guard rfl rfl rfl rfl hb16 ?_
          refine RW.op1 rfl (runs_move rfl) ?_
          refine RW.on_guard rfl rfl rfl rfl hb16 ?_
          refine RW.op1 rfl (runs_move rfl) ?_
          refine RW.on_guard rfl rfl rfl rfl hb16 ?_
          refine RW.op1 rfl (runs_lenS Try.underlying9 rfl) ?_
          refine RW.on_guard rfl rfl rfl rfl hb16 ?_
          refine RW.op1 rfl (runs_sub rfl rfl (by omega)) ?_
          refine RW.on_guard rfl rfl rfl rfl hb16 ?_
          refine RW.op1 rfl (runs_indexL Try.underlying9 rfl rfl (by omega) (by omega)) ?_
          refine RW.on_guard rfl rfl rfl rfl hb16 ?_
          refine RW.op1 rfl (runs_leq rfl rfl) ?_
          refine RW.op1 rfl (runs_pick_true rfl hb16 rfl) ?_
          refine RW.done ?_
          first
            | exact AQ.meet () hst ⟨rfl, congrArg (fun z => some (Value.bool z)) (goR_1 (by omega)), trivial⟩
            | exact AQ.meet () hst ⟨rfl, congrArg (fun z => some (Value.bool z)) (goR_2 huz (by omega)), trivial⟩
        · have hb16p := hb16
          try simp only [decide_eq_true_eq, decide_eq_false_iff_not] at hb16p
          refine RW.off_guard rfl rfl rfl rfl hb16 ?_
          refine RW.off_guard rfl rfl rfl rfl hb16 ?_
          refine RW.off_guard rfl rfl rfl rfl hb16 ?_
          refine RW.off_guard rfl rfl rfl rfl hb16 ?_
          refine RW.off_guard rfl rfl rfl rfl hb16 ?_
          refine RW.off_guard rfl rfl rfl rfl hb16 ?_
          refine RW.op1 rfl (runs_pick_false rfl hb16 rfl) ?_
          refine RW.done ?_
          first
            | exact AQ.meet () hst ⟨rfl, congrArg (fun z => some (Value.bool z)) (goR_1 (by omega)), trivial⟩
            | exact AQ.meet () hst ⟨rfl, congrArg (fun z => some (Value.bool z)) (goR_2 huz (by omega)), trivial⟩
      · rintro _ w hstn
        clear hst
        have hst := hstn
        clear hstn
        refine AQ.next ?_
        refine CW.cond rfl (fun hc23 => ?_) (fun hc23 => ?_)
        · have hcb23 := hc23
          try simp only [decide_eq_true_eq, decide_eq_false_iff_not] at hc23
          have hpos := goR_pos hcb23
          rw [huz] at hpos
          refine CW.skip ?_
          refine AQ.next ?_
          refine CW.block ?_
          -- region 4
          refine CW.region ?_
          refine RW.op1 rfl (runs_move rfl) ?_
          refine RW.op1 rfl (runs_move rfl) ?_
          refine RW.op1 rfl (runs_lenS Try.underlying9 rfl) ?_
          refine RW.op1 rfl (runs_sub rfl rfl (by omega)) ?_
          refine RW.op1 rfl (runs_sliceS_h Try.underlying9 rfl rfl (by omega)) ?_
          refine RW.op1 rfl (runs_assign rfl) ?_
          refine RW.done ?_
          refine AQ.block_normal ?_
          have he : (u.extract 0 (((u.size : Nat) : Int) - 1).toNat).toList = u.toList.take (u.toList.length - 1) := by
            rw [extract_list, List.drop_zero, huz]
            congr 1
            omega
          have hz := size_toList (u.extract 0 (((u.size : Nat) : Int) - 1).toNat)
          rw [he, List.length_take] at hz
          exact AQ.again (x := u) _ ⟨hst, by rw [he, trimR_go hcb23, hul], by omega⟩ ⟨rfl, trivial⟩ (by omega)
        · have hcb23 := hc23
          try simp only [decide_eq_true_eq, decide_eq_false_iff_not] at hc23
          rw [trimR_stop hcb23] at hul
          refine CW.exit ?_
          refine AQ.past_exit ?_
          refine AQ.past_exit ?_
          refine AQ.block_hit ?_
          refine AQ.next ?_
          refine CW.seq ?_
          -- region 5
          refine CW.region ?_
          refine RW.op1 rfl (runs_move rfl) ?_
          refine RW.op1 rfl (runs_assign rfl) ?_
          refine RW.done ?_
          refine AQ.next ?_
          refine CW.ret ?_
          refine AQ.ret1 rfl rfl ?_
          exact ⟨by rw [← hul, strOf_of], hst⟩
end Go.Proofs.YthblbockghgchaaX
