/- The document's lines, blanks, names, values: what these come to. -/
import Derived.Test.YtfjghkmapccjhaaDoorT
import Derived.Test.YtfjghkmapccjhaaDoorK7
namespace Go.Proofs.YtfjghkmapccjhaaDoorX
set_option linter.unusedVariables false
set_option linter.unusedSimpArgs false
open Go Go.RowKit Go.Proofs

set_option maxRecDepth 100000 in
set_option maxHeartbeats 1000000 in
theorem figures3_spec {w0 w : World} {I : Imm} {L : Own} (hst : St w0 w I L) (s : ByteArray) (hs : s.size = 3) :
    Calls Tryd.prog 19 #[.string s, .int .i64 3, .int .i64 3] w fun e w' => e = .returned (.tuple #[.int .i64 ((numberR s.toList).getD 0), .bool (numberR s.toList).isSome]) ∧ St w0 w' I L := by
  have hsl := size_toList s
  refine enter Tryd.func19 rfl (N := 45) rfl rfl ?_
  simp only [List.zipIdx_cons, List.zipIdx_nil, List.map_cons, List.map_nil, Nat.zero_add, Nat.reduceAdd]
  have hle := Imm.le.refl I
  refine CW.seq ?_
  -- region 0
  refine CW.region ?_
  refine RW.op1 rfl (runs_assign rfl) ?_
  refine RW.op1 rfl (runs_assign rfl) ?_
  refine RW.done ?_
  refine AQ.next ?_
  refine CW.seq ?_
  refine CW.seq ?_
  -- region 1
  refine CW.region ?_
  refine RW.op1 rfl (runs_move rfl) ?_
  refine RW.op1 rfl (runs_lenS Tryd.underlying9 rfl) ?_
  refine RW.op1 rfl (runs_move rfl) ?_
  refine RW.op1 rfl (runs_lss rfl rfl) ?_
  refine RW.op1 rfl (runs_move rfl) ?_
  refine RW.split (t := 14) rfl (fun hb14 => ?_) (fun hb14 => ?_)
  · have hb14p := hb14
    try simp only [decide_eq_true_eq, decide_eq_false_iff_not] at hb14p
    refine RW.off_guard rfl rfl rfl rfl hb14 ?_
    refine RW.off_guard rfl rfl rfl rfl hb14 ?_
    refine RW.off_guard rfl rfl rfl rfl hb14 ?_
    refine RW.off_guard rfl rfl rfl rfl hb14 ?_
    refine RW.op1 rfl (runs_pick_true rfl hb14 rfl) ?_
    refine RW.done ?_
    refine AQ.next ?_
    refine CW.cond_true rfl ?_
    refine CW.seq ?_
    -- region 2
    refine CW.region ?_
    refine RW.op1 rfl (runs_assign rfl) ?_
    refine RW.op1 rfl (runs_assign rfl) ?_
    refine RW.done ?_
    refine AQ.next ?_
    refine CW.ret ?_
    refine AQ.past_ret ?_
    refine AQ.ret2 rfl rfl rfl ?_
    rw [number_len (by omega)]
    exact ⟨rfl, hst⟩
  · have hb14p := hb14
    try simp only [decide_eq_true_eq, decide_eq_false_iff_not] at hb14p
    refine RW.on_guard rfl rfl rfl rfl hb14 ?_
    refine RW.op1 rfl (runs_move rfl) ?_
    refine RW.on_guard rfl rfl rfl rfl hb14 ?_
    refine RW.op1 rfl (runs_lenS Tryd.underlying9 rfl) ?_
    refine RW.on_guard rfl rfl rfl rfl hb14 ?_
    refine RW.op1 rfl (runs_move rfl) ?_
    refine RW.on_guard rfl rfl rfl rfl hb14 ?_
    refine RW.op1 rfl (runs_gtr rfl rfl) ?_
    refine RW.op1 rfl (runs_pick_false rfl hb14 rfl) ?_
    refine RW.done ?_
    refine AQ.next ?_
    refine CW.cond rfl (fun hc19 => ?_) (fun hc19 => ?_)
    · have hcb19 := hc19
      try simp only [decide_eq_true_eq, decide_eq_false_iff_not] at hc19
      refine CW.seq ?_
      -- region 2
      refine CW.region ?_
      refine RW.op1 rfl (runs_assign rfl) ?_
      refine RW.op1 rfl (runs_assign rfl) ?_
      refine RW.done ?_
      refine AQ.next ?_
      refine CW.ret ?_
      refine AQ.past_ret ?_
      refine AQ.ret2 rfl rfl rfl ?_
      rw [number_len (by omega)]
      exact ⟨rfl, hst⟩
    · have hcb19 := hc19
      try simp only [decide_eq_true_eq, decide_eq_false_iff_not] at hc19
      refine CW.skip ?_
      refine AQ.next ?_
      refine CW.seq ?_
      -- region 3
      refine CW.region ?_
      refine RW.op1 rfl (runs_assign rfl) ?_
      refine RW.done ?_
      refine AQ.next ?_
      refine CW.seq ?_
      refine CW.seq ?_
      -- region 4
      refine CW.region ?_
      refine RW.op1 rfl (runs_assign rfl) ?_
      refine RW.done ?_
      refine AQ.next ?_
      refine CW.block ?_
      -- loop 1
      refine CW.loop Nat (fun k w => St w0 w I L ∧ k ≤ s.size ∧ (s.toList.take k).all isDigit = true) (fun k => [(0, .string s), (8, .int .i64 ((s.toList.take k).foldl digStep 0)), (9, .int .i64 (k : Int))]) (fun k => s.size - k) ⟨0, ⟨hst, Nat.zero_le _, by simp⟩, ⟨rfl, rfl, rfl, trivial⟩⟩ ?_
      rintro k w ⟨hstn, hk, hall⟩
      clear hst
      have hst := hstn
      clear hstn
      refine CW.seq ?_
      refine CW.seq ?_
      -- region 5
      refine CW.region ?_
      refine RW.op1 rfl (runs_move rfl) ?_
      refine RW.op1 rfl (runs_move rfl) ?_
      refine RW.op1 rfl (runs_lenS Tryd.underlying9 rfl) ?_
      refine RW.op1 rfl (runs_lss rfl rfl) ?_
      refine RW.done ?_
      refine AQ.next ?_
      refine CW.cond rfl (fun hc23 => ?_) (fun hc23 => ?_)
      · have hcb23 := hc23
        try simp only [decide_eq_true_eq, decide_eq_false_iff_not] at hc23
        have hk1 : k < s.size := by omega
        have hk2 : k < s.toList.length := by omega
        obtain ⟨c, hc⟩ : ∃ c, s.toList[k] = c := ⟨_, rfl⟩
        have hbg : s[(k : Int).toNat]'(by omega) = c := by rw [← hc]; exact bget hk1
        have hcl := c.toNat_lt
        have hb6 := dig_bound 6 (s.toList.take k) (by rw [List.length_take]; omega) hall
        refine CW.skip ?_
        refine AQ.next ?_
        refine CW.seq ?_
        refine CW.block ?_
        refine CW.seq ?_
        refine CW.seq ?_
        -- region 7
        refine CW.region ?_
        refine RW.op1 rfl (runs_move rfl) ?_
        refine RW.op1 rfl (runs_move rfl) ?_
        refine RW.op1 rfl (runs_indexS Tryd.underlying9 rfl rfl (by omega) (by omega)) ?_
        rw [hbg]
        refine RW.op1 rfl (runs_lss rfl rfl) ?_
        refine RW.op1 rfl (runs_move rfl) ?_
        refine RW.split (t := 30) rfl (fun hb30 => ?_) (fun hb30 => ?_)
        · have hb30p := hb30
          try simp only [decide_eq_true_eq, decide_eq_false_iff_not] at hb30p
          refine RW.off_guard rfl rfl rfl rfl hb30 ?_
          refine RW.off_guard rfl rfl rfl rfl hb30 ?_
          refine RW.off_guard rfl rfl rfl rfl hb30 ?_
          refine RW.off_guard rfl rfl rfl rfl hb30 ?_
          refine RW.op1 rfl (runs_pick_true rfl hb30 rfl) ?_
          refine RW.done ?_
          refine AQ.next ?_
          refine CW.cond_true rfl ?_
          refine CW.seq ?_
          -- region 8
          refine CW.region ?_
          refine RW.op1 rfl (runs_assign rfl) ?_
          refine RW.op1 rfl (runs_assign rfl) ?_
          refine RW.done ?_
          refine AQ.next ?_
          refine CW.ret ?_
          refine AQ.past_ret ?_
          refine AQ.block_ret ?_
          refine AQ.past_ret ?_
          refine AQ.past_ret ?_
          refine AQ.block_ret ?_
          refine AQ.past_ret ?_
          refine AQ.ret2 rfl rfl rfl ?_
          rw [number_bad hk2 (by rw [hc]; unfold isDigit; rw [Bool.and_eq_false_iff]; simp only [decide_eq_false_iff_not]; omega)]
          exact ⟨rfl, hst⟩
        · have hb30p := hb30
          try simp only [decide_eq_true_eq, decide_eq_false_iff_not] at hb30p
          refine RW.on_guard rfl rfl rfl rfl hb30 ?_
          refine RW.op1 rfl (runs_move rfl) ?_
          refine RW.on_guard rfl rfl rfl rfl hb30 ?_
          refine RW.op1 rfl (runs_move rfl) ?_
          refine RW.on_guard rfl rfl rfl rfl hb30 ?_
          refine RW.op1 rfl (runs_indexS Tryd.underlying9 rfl rfl (by omega) (by omega)) ?_
          rw [hbg]
          refine RW.on_guard rfl rfl rfl rfl hb30 ?_
          refine RW.op1 rfl (runs_gtr rfl rfl) ?_
          refine RW.op1 rfl (runs_pick_false rfl hb30 rfl) ?_
          refine RW.done ?_
          refine AQ.next ?_
          refine CW.cond rfl (fun hc35 => ?_) (fun hc35 => ?_)
          · have hcb35 := hc35
            try simp only [decide_eq_true_eq, decide_eq_false_iff_not] at hc35
            refine CW.seq ?_
            -- region 8
            refine CW.region ?_
            refine RW.op1 rfl (runs_assign rfl) ?_
            refine RW.op1 rfl (runs_assign rfl) ?_
            refine RW.done ?_
            refine AQ.next ?_
            refine CW.ret ?_
            refine AQ.past_ret ?_
            refine AQ.block_ret ?_
            refine AQ.past_ret ?_
            refine AQ.past_ret ?_
            refine AQ.block_ret ?_
            refine AQ.past_ret ?_
            refine AQ.ret2 rfl rfl rfl ?_
            rw [number_bad hk2 (by rw [hc]; unfold isDigit; rw [Bool.and_eq_false_iff]; simp only [decide_eq_false_iff_not]; omega)]
            exact ⟨rfl, hst⟩
          · have hcb35 := hc35
            try simp only [decide_eq_true_eq, decide_eq_false_iff_not] at hc35
            refine CW.skip ?_
            refine AQ.next ?_
            -- region 9
            refine CW.region ?_
            refine RW.op1 rfl (runs_move rfl) ?_
            refine RW.op1 rfl (runs_mul rfl rfl (by omega)) ?_
            refine RW.op1 rfl (runs_move rfl) ?_
            refine RW.op1 rfl (runs_move rfl) ?_
            refine RW.op1 rfl (runs_indexS Tryd.underlying9 rfl rfl (by omega) (by omega)) ?_
            rw [hbg]
            refine RW.op1 rfl (runs_subW rfl rfl) ?_
            rw [show IntKind.u8.wrap ((c.toNat : Int) - 48) = (c.toNat : Int) - 48 by rw [IntKind.wrap_u8]; omega]
            refine RW.op1 rfl (runs_conv64 (by rw [Tryd.underlying5]; rfl) Tryd.underlying3 rfl (by omega)) ?_
            refine RW.op1 rfl (runs_add rfl rfl (by omega)) ?_
            refine RW.op1 rfl (runs_assign rfl) ?_
            refine RW.done ?_
            refine AQ.block_normal ?_
            refine AQ.next ?_
            -- region 6
            refine CW.region ?_
            refine RW.op1 rfl (runs_move rfl) ?_
            refine RW.op1 rfl (runs_add rfl rfl (by omega)) ?_
            refine RW.op1 rfl (runs_assign rfl) ?_
            refine RW.done ?_
            have hd : isDigit s.toList[k] = true := by rw [hc]; unfold isDigit; simp only [Bool.and_eq_true, decide_eq_true_eq]; omega
            exact AQ.again (k + 1) ⟨hst, by omega, digN_all hall hk2 hd⟩ ⟨rfl, by rw [dig_take hk2, hc]; rfl, rfl, trivial⟩ (by omega)
      · have hcb23 := hc23
        try simp only [decide_eq_true_eq, decide_eq_false_iff_not] at hc23
        skip
        refine CW.exit ?_
        refine AQ.past_exit ?_
        refine AQ.past_exit ?_
        refine AQ.block_hit ?_
        refine AQ.next ?_
        refine CW.seq ?_
        -- region 10
        refine CW.region ?_
        refine RW.op1 rfl (runs_move rfl) ?_
        refine RW.op1 rfl (runs_assign rfl) ?_
        refine RW.op1 rfl (runs_assign rfl) ?_
        refine RW.done ?_
        refine AQ.next ?_
        refine CW.ret ?_
        refine AQ.ret2 rfl rfl rfl ?_
        have hkt : s.toList.take k = s.toList := List.take_of_length_le (by omega)
        rw [hkt] at hall ⊢
        rw [number_ok (by omega) hall]
        exact ⟨rfl, hst⟩
set_option maxRecDepth 100000 in
set_option maxHeartbeats 1000000 in
theorem line_spec {w0 w : World} {I : Imm} {L : Own} (hst : St w0 w I L) (s : ByteArray) (hs : s.size ≤ 1099511627776) :
    Calls Tryd.prog 27 #[.string s] w fun e w' => ∃ a b ok, e = .returned (.tuple #[.string (strOf a), .string (strOf b), .bool ok]) ∧ lineL s.toList = (if ok = true then some (a, b) else none) ∧ St w0 w' I L := by
  have hsz := size_toList s
  refine enter Tryd.func27 rfl (N := 31) rfl rfl ?_
  simp only [List.zipIdx_cons, List.zipIdx_nil, List.map_cons, List.map_nil, Nat.zero_add, Nat.reduceAdd]
  have hle := Imm.le.refl I
  refine CW.seq ?_
  -- region 0
  refine CW.region ?_
  refine RW.op1 rfl (runs_assign rfl) ?_
  refine RW.op1 rfl (runs_assign rfl) ?_
  refine RW.op1 rfl (runs_assign rfl) ?_
  refine RW.done ?_
  refine AQ.next ?_
  refine CW.seq ?_
  refine CW.seq ?_
  -- region 1
  refine CW.region ?_
  refine RW.op1 rfl (runs_assign rfl) ?_
  refine RW.done ?_
  refine AQ.next ?_
  refine CW.block ?_
  -- loop 1
  refine CW.loop Nat (fun k w => St w0 w I L ∧ k ≤ s.toList.length ∧ ∀ j, j < k → ¬ (s.toList.getD j 0 = 13 ∧ s.toList.getD (j + 1) 0 = 10)) (fun k => [(0, .string s), (5, .int .i64 (k : Nat))]) (fun k => s.toList.length - k) ⟨0, ⟨hst, Nat.zero_le _, fun j hj => absurd hj (Nat.not_lt_zero _)⟩, ⟨rfl, rfl, trivial⟩⟩ ?_
  rintro k w ⟨hstn, hk, hno⟩
  clear hst
  have hst := hstn
  clear hstn
  refine CW.seq ?_
  refine CW.seq ?_
  -- region 2
  refine CW.region ?_
  refine RW.op1 rfl (runs_move rfl) ?_
  refine RW.op1 rfl (runs_add rfl rfl (by omega)) ?_
  refine RW.op1 rfl (runs_move rfl) ?_
  refine RW.op1 rfl (runs_lenS Tryd.underlying9 rfl) ?_
  refine RW.op1 rfl (runs_lss rfl rfl) ?_
  refine RW.done ?_
  refine AQ.next ?_
  refine CW.cond rfl (fun hc10 => ?_) (fun hc10 => ?_)
  · have hcb10 := hc10
    try simp only [decide_eq_true_eq, decide_eq_false_iff_not] at hc10
    have hk1 : k + 1 < s.toList.length := by omega
    obtain ⟨c, hc⟩ : ∃ c, s.toList.getD k 0 = c := ⟨_, rfl⟩
    obtain ⟨d, hd⟩ : ∃ d, s.toList.getD (k + 1) 0 = d := ⟨_, rfl⟩
    refine CW.skip ?_
    refine AQ.next ?_
    refine CW.seq ?_
    refine CW.block ?_
    refine CW.seq ?_
    -- region 4
    refine CW.cut Unit (fun _ w => St w0 w I L) (fun _ => [(0, .string s), (5, .int .i64 (k : Nat)), (23, .bool (decide (c = 13 ∧ d = 10)))]) ?_ ?_
    · -- region 4
      refine CW.region ?_
      refine RW.op1 rfl (runs_move rfl) ?_
      refine RW.op1 rfl (runs_move rfl) ?_
      refine RW.op1 rfl (runs_indexL Tryd.underlying9 rfl rfl (by omega) (by omega)) ?_
      rw [show ((k : Nat) : Int).toNat = k from rfl, hc]
      refine RW.op1 rfl (runs_eqI rfl rfl) ?_
      refine RW.op1 rfl (runs_move rfl) ?_
      refine RW.split (t := 17) rfl (fun hb17 => ?_) (fun hb17 => ?_)
      · have hb17p := hb17
        try simp only [decide_eq_true_eq, decide_eq_false_iff_not] at hb17p
        refine RW.on_guard rfl rfl rfl rfl hb17 ?_
        refine RW.op1 rfl (runs_move rfl) ?_
        refine RW.on_guard rfl rfl rfl rfl hb17 ?_
        refine RW.op1 rfl (runs_move rfl) ?_
        refine RW.on_guard rfl rfl rfl rfl hb17 ?_
        refine RW.op1 rfl (runs_add rfl rfl (by omega)) ?_
        refine RW.on_guard rfl rfl rfl rfl hb17 ?_
        refine RW.op1 rfl (runs_indexL Tryd.underlying9 rfl rfl (by omega) (by omega)) ?_
        rw [show ((k : Nat) : Int) + 1 = ((k + 1 : Nat) : Int) by omega, Int.toNat_natCast, hd]
        refine RW.on_guard rfl rfl rfl rfl hb17 ?_
        refine RW.op1 rfl (runs_eqI rfl rfl) ?_
        refine RW.op1 rfl (runs_pick_true rfl hb17 rfl) ?_
        refine RW.done ?_
        exact AQ.meet () hst ⟨rfl, rfl, boolN (by rw [← UInt8.toNat_inj, ← UInt8.toNat_inj]; simp only [decide_eq_true_eq, Bool.false_eq_true, false_iff, show (13 : UInt8).toNat = 13 from rfl, show (10 : UInt8).toNat = 10 from rfl]; omega), trivial⟩
      · have hb17p := hb17
        try simp only [decide_eq_true_eq, decide_eq_false_iff_not] at hb17p
        refine RW.off_guard rfl rfl rfl rfl hb17 ?_
        refine RW.off_guard rfl rfl rfl rfl hb17 ?_
        refine RW.off_guard rfl rfl rfl rfl hb17 ?_
        refine RW.off_guard rfl rfl rfl rfl hb17 ?_
        refine RW.off_guard rfl rfl rfl rfl hb17 ?_
        refine RW.op1 rfl (runs_pick_false rfl hb17 rfl) ?_
        refine RW.done ?_
        exact AQ.meet () hst ⟨rfl, rfl, boolN (by rw [← UInt8.toNat_inj, ← UInt8.toNat_inj]; simp only [decide_eq_true_eq, Bool.false_eq_true, false_iff, show (13 : UInt8).toNat = 13 from rfl, show (10 : UInt8).toNat = 10 from rfl]; omega), trivial⟩
    · rintro _ w hstn
      clear hst
      have hst := hstn
      clear hstn
      refine AQ.next ?_
      refine CW.cond rfl (fun hc23 => ?_) (fun hc23 => ?_)
      · have hcb23 := hc23
        try simp only [decide_eq_true_eq, decide_eq_false_iff_not] at hc23
        refine CW.seq ?_
        -- region 5
        refine CW.drawSt hst (.q 0 (.q 1 (.q 2 (.q 3 (.q 4 (.q 5 (.q 6 (.q 7 (.q 8 (.q 9 .nil)))))))))) follows (by kernel_rfl) (fun w hst => ?_)
        refine DRW.q rfl rfl (fun w' hF => runs_move rfl) ?_
        refine DRW.q rfl rfl (fun w' hF => runs_move rfl) ?_
        refine DRW.q rfl rfl (fun w' hF => runs_sliceS_h Tryd.underlying9 rfl rfl (by omega)) ?_
        refine DRW.q rfl rfl (fun w' hF => runs_move rfl) ?_
        refine DRW.q rfl rfl (fun w' hF => runs_move rfl) ?_
        refine DRW.q rfl rfl (fun w' hF => runs_add rfl rfl (by omega)) ?_
        refine DRW.q rfl rfl (fun w' hF => runs_sliceS_l Tryd.underlying9 rfl rfl (by omega)) ?_
        refine DRW.q rfl rfl (fun w' hF => runs_assign rfl) ?_
        refine DRW.q rfl rfl (fun w' hF => runs_assign rfl) ?_
        refine DRW.q rfl rfl (fun w' hF => runs_assign rfl) ?_
        refine DRW.done ?_
        refine AQ.next ?_
        refine CW.ret ?_
        refine AQ.block_ret ?_
        refine AQ.past_ret ?_
        refine AQ.past_ret ?_
        refine AQ.block_ret ?_
        refine AQ.past_ret ?_
        refine AQ.retL (rs := [.tmp 2, .tmp 3, .tmp 4]) (vs := [_, _, _]) rfl ⟨rfl, rfl, rfl, trivial⟩ (by simp) ?_
        refine ⟨s.toList.take k, s.toList.drop (k + 2), true, ?_, ?_, hst⟩
        · rw [extractE, extractE, show ((k : Nat) : Int).toNat = k from rfl, show (((k : Nat) : Int) + 2).toNat = k + 2 by omega, List.drop_zero, Nat.sub_zero, List.take_of_length_le (l := List.drop (k + 2) s.toList) (by rw [List.length_drop]; omega)]
        · obtain ⟨h1, h2⟩ : c = 13 ∧ d = 10 := by simpa using hc23
          rw [if_pos rfl]
          exact line_here hno hk1 (hc.trans h1) (hd.trans h2)
      · have hcb23 := hc23
        try simp only [decide_eq_true_eq, decide_eq_false_iff_not] at hc23
        refine CW.skip ?_
        refine AQ.block_normal ?_
        refine AQ.next ?_
        -- region 3
        refine CW.region ?_
        refine RW.op1 rfl (runs_move rfl) ?_
        refine RW.op1 rfl (runs_add rfl rfl (by omega)) ?_
        refine RW.op1 rfl (runs_assign rfl) ?_
        refine RW.done ?_
        exact AQ.again (x := k) (k + 1) ⟨hst, by omega, fun j hj => by
          by_cases hjk : j = k
          · subst hjk
            rw [hc, hd]
            simpa using hc23
          · exact hno j (by omega)⟩ ⟨rfl, rfl, trivial⟩ (by omega)
  · have hcb10 := hc10
    try simp only [decide_eq_true_eq, decide_eq_false_iff_not] at hc10
    skip
    refine CW.exit ?_
    refine AQ.past_exit ?_
    refine AQ.past_exit ?_
    refine AQ.block_hit ?_
    refine AQ.next ?_
    refine CW.seq ?_
    -- region 6
    refine CW.region ?_
    refine RW.op1 rfl (runs_assign rfl) ?_
    refine RW.op1 rfl (runs_assign rfl) ?_
    refine RW.op1 rfl (runs_assign rfl) ?_
    refine RW.done ?_
    refine AQ.next ?_
    refine CW.ret ?_
    refine AQ.retL (rs := [.tmp 2, .tmp 3, .tmp 4]) (vs := [_, _, _]) rfl ⟨rfl, rfl, rfl, trivial⟩ (by simp) ?_
    exact ⟨[], [], false, rfl, line_none (fun j hj => hno j (by omega)), hst⟩
theorem trimL_step {l : List UInt8} (h : 0 < l.length) (h2 : l.getD 0 0 = 32) : Lib.trimLeftB l 32 = Lib.trimLeftB (l.drop 1) 32 := by
  cases l with
  | nil => cases h
  | cons c r =>
    obtain rfl : c = 32 := h2
    rfl
theorem trimL_stop {l : List UInt8} (h : ¬ (0 < l.length ∧ l.getD 0 0 = 32)) : Lib.trimLeftB l 32 = l := by
  cases l with
  | nil => rfl
  | cons c r =>
    unfold Lib.trimLeftB
    rw [List.dropWhile_cons, if_neg]
    intro hc
    exact h ⟨by simp, by simpa using hc⟩
theorem last_split {l : List UInt8} (h : 0 < l.length) : l = l.take (l.length - 1) ++ [l.getD (l.length - 1) 0] := by
  conv => lhs; rw [← List.take_append_drop (l.length - 1) l]
  congr 1
  rw [List.drop_eq_getElem_cons (by omega), List.drop_of_length_le (by omega), get_getD (by omega)]
theorem trimR_step {l : List UInt8} (h : 0 < l.length) (h2 : l.getD (l.length - 1) 0 = 32) : Lib.trimRightB l 32 = Lib.trimRightB (l.take (l.length - 1)) 32 := by
  have e := last_split h
  rw [h2] at e
  generalize l.take (l.length - 1) = m at e ⊢
  rw [e]
  unfold Lib.trimRightB
  rw [List.reverse_append]
  rfl
theorem trimR_stop {l : List UInt8} (h : ¬ (0 < l.length ∧ l.getD (l.length - 1) 0 = 32)) : Lib.trimRightB l 32 = l := by
  by_cases h0 : 0 < l.length
  · have e := last_split h0
    have h3 : l.getD (l.length - 1) 0 ≠ 32 := fun h4 => h ⟨h0, h4⟩
    generalize l.getD (l.length - 1) 0 = c at e h3
    generalize l.take (l.length - 1) = m at e
    rw [e]
    unfold Lib.trimRightB
    rw [List.reverse_append, List.reverse_singleton, List.singleton_append, List.dropWhile_cons, if_neg (by simpa using h3), List.reverse_cons, List.reverse_reverse]
  · obtain rfl : l = [] := List.eq_nil_of_length_eq_zero (by omega)
    rfl
set_option maxRecDepth 100000 in
set_option maxHeartbeats 1000000 in
theorem blanks_spec {w0 w : World} {I : Imm} {L : Own} (hst : St w0 w I L) (s : ByteArray) (hs : s.size ≤ 1099511627776) :
    Calls Tryd.prog 30 #[.string s] w fun e w' => e = .returned (.string (strOf (Lib.trimB s.toList 32))) ∧ St w0 w' I L := by
  have hsz := size_toList s
  refine enter Tryd.func30 rfl (N := 30) rfl rfl ?_
  simp only [List.zipIdx_cons, List.zipIdx_nil, List.map_cons, List.map_nil, Nat.zero_add, Nat.reduceAdd]
  have hle := Imm.le.refl I
  refine CW.seq ?_
  -- region 0
  refine CW.region ?_
  refine RW.op1 rfl (runs_assign rfl) ?_
  refine RW.done ?_
  refine AQ.next ?_
  refine CW.seq ?_
  refine CW.block ?_
  -- loop 1
  refine CW.loop (List UInt8) (fun x w => St w0 w I L ∧ x.length ≤ s.size ∧ Lib.trimLeftB x 32 = Lib.trimLeftB s.toList 32) (fun x => [(0, .string (strOf x))]) (fun x => x.length) ⟨s.toList, ⟨hst, by omega, rfl⟩, ⟨by rw [strOfE]; rfl, trivial⟩⟩ ?_
  rintro y w ⟨hstn, hyl, hyt⟩
  clear hst
  have hst := hstn
  clear hstn
  have hyz := strOfZ y
  obtain ⟨c, hc⟩ : ∃ c, y.getD 0 0 = c := ⟨_, rfl⟩
  refine CW.seq ?_
  refine CW.seq ?_
  -- region 1
  refine CW.cut Unit (fun _ w => St w0 w I L) (fun _ => [(0, .string (strOf y)), (10, .bool (decide (0 < y.length ∧ y.getD 0 0 = 32)))]) ?_ ?_
  · -- region 1
    refine CW.region ?_
    refine RW.op1 rfl (runs_move rfl) ?_
    refine RW.op1 rfl (runs_lenS Tryd.underlying9 rfl) ?_
    refine RW.op1 rfl (runs_gtr rfl rfl) ?_
    refine RW.op1 rfl (runs_move rfl) ?_
    refine RW.split (t := 6) rfl (fun hb6 => ?_) (fun hb6 => ?_)
    · have hb6p := hb6
      try simp only [decide_eq_true_eq, decide_eq_false_iff_not] at hb6p
      refine RW.on_guard rfl rfl rfl rfl hb6 ?_
      refine RW.op1 rfl (runs_move rfl) ?_
      refine RW.on_guard rfl rfl rfl rfl hb6 ?_
      refine RW.op1 rfl (runs_indexL Tryd.underlying9 rfl rfl (by omega) (by omega)) ?_
      rw [strOf_toList, show ((0 : Int)).toNat = 0 from rfl, hc]
      refine RW.on_guard rfl rfl rfl rfl hb6 ?_
      refine RW.op1 rfl (runs_eqI rfl rfl) ?_
      refine RW.op1 rfl (runs_pick_true rfl hb6 rfl) ?_
      refine RW.done ?_
      exact AQ.meet () hst ⟨rfl, boolN (by (try rw [hc]); rw [← UInt8.toNat_inj]; simp only [decide_eq_true_eq, Bool.false_eq_true, false_iff, show (32 : UInt8).toNat = 32 from rfl]; omega), trivial⟩
    · have hb6p := hb6
      try simp only [decide_eq_true_eq, decide_eq_false_iff_not] at hb6p
      refine RW.off_guard rfl rfl rfl rfl hb6 ?_
      refine RW.off_guard rfl rfl rfl rfl hb6 ?_
      refine RW.off_guard rfl rfl rfl rfl hb6 ?_
      refine RW.op1 rfl (runs_pick_false rfl hb6 rfl) ?_
      refine RW.done ?_
      exact AQ.meet () hst ⟨rfl, boolN (by (try rw [hc]); rw [← UInt8.toNat_inj]; simp only [decide_eq_true_eq, Bool.false_eq_true, false_iff, show (32 : UInt8).toNat = 32 from rfl]; omega), trivial⟩
  · rintro _ w hstn
    clear hst
    have hst := hstn
    clear hstn
    refine AQ.next ?_
    refine CW.cond rfl (fun hc10 => ?_) (fun hc10 => ?_)
    · have hcb10 := hc10
      try simp only [decide_eq_true_eq, decide_eq_false_iff_not] at hc10
      have h10 : 0 < y.length ∧ y.getD 0 0 = 32 := by simpa using hcb10
      refine CW.skip ?_
      refine AQ.next ?_
      refine CW.block ?_
      -- region 2
      refine CW.region ?_
      refine RW.op1 rfl (runs_move rfl) ?_
      refine RW.op1 rfl (runs_sliceS_l Tryd.underlying9 rfl rfl (by omega)) ?_
      rw [show (strOf y).extract ((1 : Int)).toNat (strOf y).size = strOf (y.drop 1) from by rw [extractE, strOf_toList, show ((1 : Int)).toNat = 1 from rfl, List.take_of_length_le (by rw [List.length_drop]; omega)]]
      refine RW.op1 rfl (runs_assign rfl) ?_
      refine RW.done ?_
      refine AQ.block_normal ?_
      exact AQ.again (x := y) (y.drop 1) ⟨hst, by rw [List.length_drop]; omega, by rw [← trimL_step h10.1 h10.2, hyt]⟩ ⟨rfl, trivial⟩ (by rw [List.length_drop]; omega)
    · have hcb10 := hc10
      try simp only [decide_eq_true_eq, decide_eq_false_iff_not] at hc10
      have hystop : ¬ (0 < y.length ∧ y.getD 0 0 = 32) := by simpa using hcb10
      refine CW.exit ?_
      refine AQ.past_exit ?_
      refine AQ.past_exit ?_
      refine AQ.block_hit ?_
      refine AQ.next ?_
      refine CW.seq ?_
      refine CW.block ?_
      -- loop 2
      refine CW.loop (List UInt8) (fun x w => St w0 w I L ∧ x.length ≤ s.size ∧ Lib.trimRightB x 32 = Lib.trimB s.toList 32) (fun x => [(0, .string (strOf x))]) (fun x => x.length) ⟨y, ⟨hst, hyl, by rw [← trim_swap, ← hyt, trimL_stop hystop]⟩, ⟨rfl, trivial⟩⟩ ?_
      rintro x w ⟨hstn, hxl, hxt⟩
      clear hst
      have hst := hstn
      clear hstn
      have hxz := strOfZ x
      obtain ⟨c, hc⟩ : ∃ c, x.getD (x.length - 1) 0 = c := ⟨_, rfl⟩
      refine CW.seq ?_
      refine CW.seq ?_
      -- region 3
      refine CW.cut Unit (fun _ w => St w0 w I L) (fun _ => [(0, .string (strOf x)), (23, .bool (decide (0 < x.length ∧ x.getD (x.length - 1) 0 = 32)))]) ?_ ?_
      · -- region 3
        refine CW.region ?_
        refine RW.op1 rfl (runs_move rfl) ?_
        refine RW.op1 rfl (runs_lenS Tryd.underlying9 rfl) ?_
        refine RW.op1 rfl (runs_gtr rfl rfl) ?_
        refine RW.op1 rfl (runs_move rfl) ?_
        refine RW.split (t := 16) rfl (fun hb16 => ?_) (fun hb16 => ?_)
        · have hb16p := hb16
          try simp only [decide_eq_true_eq, decide_eq_false_iff_not] at hb16p
          refine RW.on_guard rfl rfl rfl rfl hb16 ?_
          refine RW.op1 rfl (runs_move rfl) ?_
          refine RW.on_guard rfl rfl rfl rfl hb16 ?_
          refine RW.op1 rfl (runs_move rfl) ?_
          refine RW.on_guard rfl rfl rfl rfl hb16 ?_
          refine RW.op1 rfl (runs_lenS Tryd.underlying9 rfl) ?_
          refine RW.on_guard rfl rfl rfl rfl hb16 ?_
          refine RW.op1 rfl (runs_sub rfl rfl (by omega)) ?_
          refine RW.on_guard rfl rfl rfl rfl hb16 ?_
          refine RW.op1 rfl (runs_indexL Tryd.underlying9 rfl rfl (by omega) (by omega)) ?_
          rw [strOf_toList, hxz, show ((((x.length : Nat) : Int)) - 1).toNat = x.length - 1 by omega, hc]
          refine RW.on_guard rfl rfl rfl rfl hb16 ?_
          refine RW.op1 rfl (runs_eqI rfl rfl) ?_
          refine RW.op1 rfl (runs_pick_true rfl hb16 rfl) ?_
          refine RW.done ?_
          exact AQ.meet () hst ⟨rfl, boolN (by (try rw [hc]); rw [← UInt8.toNat_inj]; simp only [decide_eq_true_eq, Bool.false_eq_true, false_iff, show (32 : UInt8).toNat = 32 from rfl]; omega), trivial⟩
        · have hb16p := hb16
          try simp only [decide_eq_true_eq, decide_eq_false_iff_not] at hb16p
          refine RW.off_guard rfl rfl rfl rfl hb16 ?_
          refine RW.off_guard rfl rfl rfl rfl hb16 ?_
          refine RW.off_guard rfl rfl rfl rfl hb16 ?_
          refine RW.off_guard rfl rfl rfl rfl hb16 ?_
          refine RW.off_guard rfl rfl rfl rfl hb16 ?_
          refine RW.off_guard rfl rfl rfl rfl hb16 ?_
          refine RW.op1 rfl (runs_pick_false rfl hb16 rfl) ?_
          refine RW.done ?_
          exact AQ.meet () hst ⟨rfl, boolN (by (try rw [hc]); rw [← UInt8.toNat_inj]; simp only [decide_eq_true_eq, Bool.false_eq_true, false_iff, show (32 : UInt8).toNat = 32 from rfl]; omega), trivial⟩
      · rintro _ w hstn
        clear hst
        have hst := hstn
        clear hstn
        refine AQ.next ?_
        refine CW.cond rfl (fun hc23 => ?_) (fun hc23 => ?_)
        · have hcb23 := hc23
          try simp only [decide_eq_true_eq, decide_eq_false_iff_not] at hc23
          have h23 : 0 < x.length ∧ x.getD (x.length - 1) 0 = 32 := by simpa using hcb23
          refine CW.skip ?_
          refine AQ.next ?_
          refine CW.block ?_
          -- region 4
          refine CW.region ?_
          refine RW.op1 rfl (runs_move rfl) ?_
          refine RW.op1 rfl (runs_move rfl) ?_
          refine RW.op1 rfl (runs_lenS Tryd.underlying9 rfl) ?_
          refine RW.op1 rfl (runs_sub rfl rfl (by omega)) ?_
          refine RW.op1 rfl (runs_sliceS_h Tryd.underlying9 rfl rfl (by omega)) ?_
          rw [show (strOf x).extract 0 ((((strOf x).size : Nat) : Int) - 1).toNat = strOf (x.take (x.length - 1)) from by rw [extractE, strOf_toList, hxz, List.drop_zero, Nat.sub_zero, show ((((x.length : Nat) : Int)) - 1).toNat = x.length - 1 by omega]]
          refine RW.op1 rfl (runs_assign rfl) ?_
          refine RW.done ?_
          refine AQ.block_normal ?_
          exact AQ.again (x := x) (x.take (x.length - 1)) ⟨hst, by rw [List.length_take]; omega, by rw [← trimR_step h23.1 h23.2, hxt]⟩ ⟨rfl, trivial⟩ (by rw [List.length_take]; omega)
        · have hcb23 := hc23
          try simp only [decide_eq_true_eq, decide_eq_false_iff_not] at hc23
          have hxstop : ¬ (0 < x.length ∧ x.getD (x.length - 1) 0 = 32) := by simpa using hcb23
          refine CW.exit ?_
          refine AQ.past_exit ?_
          refine AQ.past_exit ?_
          refine AQ.block_hit ?_
          refine AQ.next ?_
          refine CW.seq ?_
          -- region 5
          refine CW.region ?_
          refine RW.op1 rfl (runs_move rfl) ?_
          refine RW.op1 rfl (runs_assign rfl) ?_
          refine RW.done ?_
          refine AQ.next ?_
          refine CW.ret ?_
          refine AQ.ret1 rfl rfl ?_
          rw [← hxt, trimR_stop hxstop]
          exact ⟨rfl, hst⟩
set_option maxRecDepth 100000 in
set_option maxHeartbeats 1000000 in
theorem nameByte_spec {w0 w : World} {I : Imm} {L : Own} (hst : St w0 w I L) (c : UInt8) :
    Calls Tryd.prog 42 #[.int .u8 (c.toNat : Int)] w fun e w' => e = .returned (.bool (nmB c)) ∧ St w0 w' I L := by
  refine enter Tryd.func42 rfl (N := 29) rfl rfl ?_
  simp only [List.zipIdx_cons, List.zipIdx_nil, List.map_cons, List.map_nil, Nat.zero_add, Nat.reduceAdd]
  have hle := Imm.le.refl I
  refine CW.seq ?_
  -- region 0
  refine CW.region ?_
  refine RW.op1 rfl (runs_assign rfl) ?_
  refine RW.done ?_
  refine AQ.next ?_
  refine CW.seq ?_
  -- region 1
  refine CW.cut Unit (fun _ w => St w0 w I L) (fun _ => [(2, .bool (decide (nameP (c.toNat : Int))))]) ?_ ?_
  · -- region 1
    refine CW.region ?_
    refine RW.op1 rfl (runs_move rfl) ?_
    refine RW.op1 rfl (runs_geq rfl rfl) ?_
    refine RW.op1 rfl (runs_move rfl) ?_
    refine RW.split (t := 5) rfl (fun hb5 => ?_) (fun hb5 => ?_)
    · have hb5p := hb5
      try simp only [decide_eq_true_eq, decide_eq_false_iff_not] at hb5p
      refine RW.on_guard rfl rfl rfl rfl hb5 ?_
      refine RW.op1 rfl (runs_move rfl) ?_
      refine RW.on_guard rfl rfl rfl rfl hb5 ?_
      refine RW.op1 rfl (runs_leq rfl rfl) ?_
      refine RW.op1 rfl (runs_pick_true rfl hb5 rfl) ?_
      refine RW.op1 rfl (runs_move rfl) ?_
      refine RW.split (t := 9) rfl (fun hb9 => ?_) (fun hb9 => ?_)
      · have hb9p := hb9
        try simp only [decide_eq_true_eq, decide_eq_false_iff_not] at hb9p
        refine RW.off_guard rfl rfl rfl rfl hb9 ?_
        refine RW.off_guard rfl rfl rfl rfl hb9 ?_
        refine RW.off_guard rfl rfl rfl rfl hb9 ?_
        refine RW.off_undef rfl rfl rfl rfl ?_
        refine RW.off_undef rfl rfl rfl rfl ?_
        refine RW.off_guard rfl rfl rfl rfl hb9 ?_
        refine RW.op1 rfl (runs_pick_true rfl hb9 rfl) ?_
        refine RW.op1 rfl (runs_move rfl) ?_
        refine RW.off_guard rfl rfl rfl rfl rfl ?_
        refine RW.off_guard rfl rfl rfl rfl rfl ?_
        refine RW.off_guard rfl rfl rfl rfl rfl ?_
        refine RW.off_undef rfl rfl rfl rfl ?_
        refine RW.off_undef rfl rfl rfl rfl ?_
        refine RW.off_guard rfl rfl rfl rfl rfl ?_
        refine RW.op1 rfl (runs_pick_true rfl rfl rfl) ?_
        refine RW.op1 rfl (runs_move rfl) ?_
        refine RW.off_guard rfl rfl rfl rfl rfl ?_
        refine RW.off_guard rfl rfl rfl rfl rfl ?_
        refine RW.op1 rfl (runs_pick_true rfl rfl rfl) ?_
        refine RW.op1 rfl (runs_assign rfl) ?_
        refine RW.done ?_
        exact AQ.meet () hst ⟨boolN (by unfold nameP; simp only [decide_eq_true_eq, true_iff, Bool.false_eq_true, false_iff]; omega), trivial⟩
      · have hb9p := hb9
        try simp only [decide_eq_true_eq, decide_eq_false_iff_not] at hb9p
        refine RW.on_guard rfl rfl rfl rfl hb9 ?_
        refine RW.op1 rfl (runs_move rfl) ?_
        refine RW.on_guard rfl rfl rfl rfl hb9 ?_
        refine RW.op1 rfl (runs_geq rfl rfl) ?_
        refine RW.on_guard rfl rfl rfl rfl hb9 ?_
        refine RW.op1 rfl (runs_move rfl) ?_
        refine RW.split (t := 12) rfl (fun hb12 => ?_) (fun hb12 => ?_)
        · have hb12p := hb12
          try simp only [decide_eq_true_eq, decide_eq_false_iff_not] at hb12p
          refine RW.on_guard rfl rfl rfl rfl hb12 ?_
          refine RW.op1 rfl (runs_move rfl) ?_
          refine RW.on_guard rfl rfl rfl rfl hb12 ?_
          refine RW.op1 rfl (runs_leq rfl rfl) ?_
          refine RW.on_guard rfl rfl rfl rfl hb9 ?_
          refine RW.op1 rfl (runs_pick_true rfl hb12 rfl) ?_
          refine RW.op1 rfl (runs_pick_false rfl hb9 rfl) ?_
          refine RW.op1 rfl (runs_move rfl) ?_
          refine RW.split (t := 17) rfl (fun hb17 => ?_) (fun hb17 => ?_)
          · have hb17p := hb17
            try simp only [decide_eq_true_eq, decide_eq_false_iff_not] at hb17p
            refine RW.off_guard rfl rfl rfl rfl hb17 ?_
            refine RW.off_guard rfl rfl rfl rfl hb17 ?_
            refine RW.off_guard rfl rfl rfl rfl hb17 ?_
            refine RW.off_undef rfl rfl rfl rfl ?_
            refine RW.off_undef rfl rfl rfl rfl ?_
            refine RW.off_guard rfl rfl rfl rfl hb17 ?_
            refine RW.op1 rfl (runs_pick_true rfl hb17 rfl) ?_
            refine RW.op1 rfl (runs_move rfl) ?_
            refine RW.off_guard rfl rfl rfl rfl rfl ?_
            refine RW.off_guard rfl rfl rfl rfl rfl ?_
            refine RW.op1 rfl (runs_pick_true rfl rfl rfl) ?_
            refine RW.op1 rfl (runs_assign rfl) ?_
            refine RW.done ?_
            exact AQ.meet () hst ⟨boolN (by unfold nameP; simp only [decide_eq_true_eq, true_iff, Bool.false_eq_true, false_iff]; omega), trivial⟩
          · have hb17p := hb17
            try simp only [decide_eq_true_eq, decide_eq_false_iff_not] at hb17p
            refine RW.on_guard rfl rfl rfl rfl hb17 ?_
            refine RW.op1 rfl (runs_move rfl) ?_
            refine RW.on_guard rfl rfl rfl rfl hb17 ?_
            refine RW.op1 rfl (runs_geq rfl rfl) ?_
            refine RW.on_guard rfl rfl rfl rfl hb17 ?_
            refine RW.op1 rfl (runs_move rfl) ?_
            refine RW.split (t := 20) rfl (fun hb20 => ?_) (fun hb20 => ?_)
            · have hb20p := hb20
              try simp only [decide_eq_true_eq, decide_eq_false_iff_not] at hb20p
              refine RW.on_guard rfl rfl rfl rfl hb20 ?_
              refine RW.op1 rfl (runs_move rfl) ?_
              refine RW.on_guard rfl rfl rfl rfl hb20 ?_
              refine RW.op1 rfl (runs_leq rfl rfl) ?_
              refine RW.on_guard rfl rfl rfl rfl hb17 ?_
              refine RW.op1 rfl (runs_pick_true rfl hb20 rfl) ?_
              refine RW.op1 rfl (runs_pick_false rfl hb17 rfl) ?_
              refine RW.op1 rfl (runs_move rfl) ?_
              refine RW.split (t := 25) rfl (fun hb25 => ?_) (fun hb25 => ?_)
              · have hb25p := hb25
                try simp only [decide_eq_true_eq, decide_eq_false_iff_not] at hb25p
                refine RW.off_guard rfl rfl rfl rfl hb25 ?_
                refine RW.off_guard rfl rfl rfl rfl hb25 ?_
                refine RW.op1 rfl (runs_pick_true rfl hb25 rfl) ?_
                refine RW.op1 rfl (runs_assign rfl) ?_
                refine RW.done ?_
                exact AQ.meet () hst ⟨boolN (by unfold nameP; simp only [decide_eq_true_eq, true_iff, Bool.false_eq_true, false_iff]; omega), trivial⟩
              · have hb25p := hb25
                try simp only [decide_eq_true_eq, decide_eq_false_iff_not] at hb25p
                refine RW.on_guard rfl rfl rfl rfl hb25 ?_
                refine RW.op1 rfl (runs_move rfl) ?_
                refine RW.on_guard rfl rfl rfl rfl hb25 ?_
                refine RW.op1 rfl (runs_eqI rfl rfl) ?_
                refine RW.op1 rfl (runs_pick_false rfl hb25 rfl) ?_
                refine RW.op1 rfl (runs_assign rfl) ?_
                refine RW.done ?_
                exact AQ.meet () hst ⟨boolN (by unfold nameP; simp only [decide_eq_true_eq, true_iff, Bool.false_eq_true, false_iff]; omega), trivial⟩
            · have hb20p := hb20
              try simp only [decide_eq_true_eq, decide_eq_false_iff_not] at hb20p
              refine RW.off_guard rfl rfl rfl rfl hb20 ?_
              refine RW.off_guard rfl rfl rfl rfl hb20 ?_
              refine RW.on_guard rfl rfl rfl rfl hb17 ?_
              refine RW.op1 rfl (runs_pick_false rfl hb20 rfl) ?_
              refine RW.op1 rfl (runs_pick_false rfl hb17 rfl) ?_
              refine RW.op1 rfl (runs_move rfl) ?_
              refine RW.on_guard rfl rfl rfl rfl rfl ?_
              refine RW.op1 rfl (runs_move rfl) ?_
              refine RW.on_guard rfl rfl rfl rfl rfl ?_
              refine RW.op1 rfl (runs_eqI rfl rfl) ?_
              refine RW.op1 rfl (runs_pick_false rfl rfl rfl) ?_
              refine RW.op1 rfl (runs_assign rfl) ?_
              refine RW.done ?_
              exact AQ.meet () hst ⟨boolN (by unfold nameP; simp only [decide_eq_true_eq, true_iff, Bool.false_eq_true, false_iff]; omega), trivial⟩
        · have hb12p := hb12
          try simp only [decide_eq_true_eq, decide_eq_false_iff_not] at hb12p
          refine RW.off_guard rfl rfl rfl rfl hb12 ?_
          refine RW.off_guard rfl rfl rfl rfl hb12 ?_
          refine RW.on_guard rfl rfl rfl rfl hb9 ?_
          refine RW.op1 rfl (runs_pick_false rfl hb12 rfl) ?_
          refine RW.op1 rfl (runs_pick_false rfl hb9 rfl) ?_
          refine RW.op1 rfl (runs_move rfl) ?_
          refine RW.on_guard rfl rfl rfl rfl rfl ?_
          refine RW.op1 rfl (runs_move rfl) ?_
          refine RW.on_guard rfl rfl rfl rfl rfl ?_
          refine RW.op1 rfl (runs_geq rfl rfl) ?_
          refine RW.on_guard rfl rfl rfl rfl rfl ?_
          refine RW.op1 rfl (runs_move rfl) ?_
          refine RW.split (t := 20) rfl (fun hb20 => ?_) (fun hb20 => ?_)
          · have hb20p := hb20
            try simp only [decide_eq_true_eq, decide_eq_false_iff_not] at hb20p
            refine RW.on_guard rfl rfl rfl rfl hb20 ?_
            refine RW.op1 rfl (runs_move rfl) ?_
            refine RW.on_guard rfl rfl rfl rfl hb20 ?_
            refine RW.op1 rfl (runs_leq rfl rfl) ?_
            refine RW.on_guard rfl rfl rfl rfl rfl ?_
            refine RW.op1 rfl (runs_pick_true rfl hb20 rfl) ?_
            refine RW.op1 rfl (runs_pick_false rfl rfl rfl) ?_
            refine RW.op1 rfl (runs_move rfl) ?_
            refine RW.split (t := 25) rfl (fun hb25 => ?_) (fun hb25 => ?_)
            · have hb25p := hb25
              try simp only [decide_eq_true_eq, decide_eq_false_iff_not] at hb25p
              refine RW.off_guard rfl rfl rfl rfl hb25 ?_
              refine RW.off_guard rfl rfl rfl rfl hb25 ?_
              refine RW.op1 rfl (runs_pick_true rfl hb25 rfl) ?_
              refine RW.op1 rfl (runs_assign rfl) ?_
              refine RW.done ?_
              exact AQ.meet () hst ⟨boolN (by unfold nameP; simp only [decide_eq_true_eq, true_iff, Bool.false_eq_true, false_iff]; omega), trivial⟩
            · have hb25p := hb25
              try simp only [decide_eq_true_eq, decide_eq_false_iff_not] at hb25p
              refine RW.on_guard rfl rfl rfl rfl hb25 ?_
              refine RW.op1 rfl (runs_move rfl) ?_
              refine RW.on_guard rfl rfl rfl rfl hb25 ?_
              refine RW.op1 rfl (runs_eqI rfl rfl) ?_
              refine RW.op1 rfl (runs_pick_false rfl hb25 rfl) ?_
              refine RW.op1 rfl (runs_assign rfl) ?_
              refine RW.done ?_
              exact AQ.meet () hst ⟨boolN (by unfold nameP; simp only [decide_eq_true_eq, true_iff, Bool.false_eq_true, false_iff]; omega), trivial⟩
          · have hb20p := hb20
            try simp only [decide_eq_true_eq, decide_eq_false_iff_not] at hb20p
            refine RW.off_guard rfl rfl rfl rfl hb20 ?_
            refine RW.off_guard rfl rfl rfl rfl hb20 ?_
            refine RW.on_guard rfl rfl rfl rfl rfl ?_
            refine RW.op1 rfl (runs_pick_false rfl hb20 rfl) ?_
            refine RW.op1 rfl (runs_pick_false rfl rfl rfl) ?_
            refine RW.op1 rfl (runs_move rfl) ?_
            refine RW.on_guard rfl rfl rfl rfl rfl ?_
            refine RW.op1 rfl (runs_move rfl) ?_
            refine RW.on_guard rfl rfl rfl rfl rfl ?_
            refine RW.op1 rfl (runs_eqI rfl rfl) ?_
            refine RW.op1 rfl (runs_pick_false rfl rfl rfl) ?_
            refine RW.op1 rfl (runs_assign rfl) ?_
            refine RW.done ?_
            exact AQ.meet () hst ⟨boolN (by unfold nameP; simp only [decide_eq_true_eq, true_iff, Bool.false_eq_true, false_iff]; omega), trivial⟩
    · have hb5p := hb5
      try simp only [decide_eq_true_eq, decide_eq_false_iff_not] at hb5p
      refine RW.off_guard rfl rfl rfl rfl hb5 ?_
      refine RW.off_guard rfl rfl rfl rfl hb5 ?_
      refine RW.op1 rfl (runs_pick_false rfl hb5 rfl) ?_
      refine RW.op1 rfl (runs_move rfl) ?_
      refine RW.on_guard rfl rfl rfl rfl rfl ?_
      refine RW.op1 rfl (runs_move rfl) ?_
      refine RW.on_guard rfl rfl rfl rfl rfl ?_
      refine RW.op1 rfl (runs_geq rfl rfl) ?_
      refine RW.on_guard rfl rfl rfl rfl rfl ?_
      refine RW.op1 rfl (runs_move rfl) ?_
      refine RW.split (t := 12) rfl (fun hb12 => ?_) (fun hb12 => ?_)
      · have hb12p := hb12
        try simp only [decide_eq_true_eq, decide_eq_false_iff_not] at hb12p
        refine RW.on_guard rfl rfl rfl rfl hb12 ?_
        refine RW.op1 rfl (runs_move rfl) ?_
        refine RW.on_guard rfl rfl rfl rfl hb12 ?_
        refine RW.op1 rfl (runs_leq rfl rfl) ?_
        refine RW.on_guard rfl rfl rfl rfl rfl ?_
        refine RW.op1 rfl (runs_pick_true rfl hb12 rfl) ?_
        refine RW.op1 rfl (runs_pick_false rfl rfl rfl) ?_
        refine RW.op1 rfl (runs_move rfl) ?_
        refine RW.split (t := 17) rfl (fun hb17 => ?_) (fun hb17 => ?_)
        · have hb17p := hb17
          try simp only [decide_eq_true_eq, decide_eq_false_iff_not] at hb17p
          refine RW.off_guard rfl rfl rfl rfl hb17 ?_
          refine RW.off_guard rfl rfl rfl rfl hb17 ?_
          refine RW.off_guard rfl rfl rfl rfl hb17 ?_
          refine RW.off_undef rfl rfl rfl rfl ?_
          refine RW.off_undef rfl rfl rfl rfl ?_
          refine RW.off_guard rfl rfl rfl rfl hb17 ?_
          refine RW.op1 rfl (runs_pick_true rfl hb17 rfl) ?_
          refine RW.op1 rfl (runs_move rfl) ?_
          refine RW.off_guard rfl rfl rfl rfl rfl ?_
          refine RW.off_guard rfl rfl rfl rfl rfl ?_
          refine RW.op1 rfl (runs_pick_true rfl rfl rfl) ?_
          refine RW.op1 rfl (runs_assign rfl) ?_
          refine RW.done ?_
          exact AQ.meet () hst ⟨boolN (by unfold nameP; simp only [decide_eq_true_eq, true_iff, Bool.false_eq_true, false_iff]; omega), trivial⟩
        · have hb17p := hb17
          try simp only [decide_eq_true_eq, decide_eq_false_iff_not] at hb17p
          refine RW.on_guard rfl rfl rfl rfl hb17 ?_
          refine RW.op1 rfl (runs_move rfl) ?_
          refine RW.on_guard rfl rfl rfl rfl hb17 ?_
          refine RW.op1 rfl (runs_geq rfl rfl) ?_
          refine RW.on_guard rfl rfl rfl rfl hb17 ?_
          refine RW.op1 rfl (runs_move rfl) ?_
          refine RW.split (t := 20) rfl (fun hb20 => ?_) (fun hb20 => ?_)
          · have hb20p := hb20
            try simp only [decide_eq_true_eq, decide_eq_false_iff_not] at hb20p
            refine RW.on_guard rfl rfl rfl rfl hb20 ?_
            refine RW.op1 rfl (runs_move rfl) ?_
            refine RW.on_guard rfl rfl rfl rfl hb20 ?_
            refine RW.op1 rfl (runs_leq rfl rfl) ?_
            refine RW.on_guard rfl rfl rfl rfl hb17 ?_
            refine RW.op1 rfl (runs_pick_true rfl hb20 rfl) ?_
            refine RW.op1 rfl (runs_pick_false rfl hb17 rfl) ?_
            refine RW.op1 rfl (runs_move rfl) ?_
            refine RW.split (t := 25) rfl (fun hb25 => ?_) (fun hb25 => ?_)
            · have hb25p := hb25
              try simp only [decide_eq_true_eq, decide_eq_false_iff_not] at hb25p
              refine RW.off_guard rfl rfl rfl rfl hb25 ?_
              refine RW.off_guard rfl rfl rfl rfl hb25 ?_
              refine RW.op1 rfl (runs_pick_true rfl hb25 rfl) ?_
              refine RW.op1 rfl (runs_assign rfl) ?_
              refine RW.done ?_
              exact AQ.meet () hst ⟨boolN (by unfold nameP; simp only [decide_eq_true_eq, true_iff, Bool.false_eq_true, false_iff]; omega), trivial⟩
            · have hb25p := hb25
              try simp only [decide_eq_true_eq, decide_eq_false_iff_not] at hb25p
              refine RW.on_guard rfl rfl rfl rfl hb25 ?_
              refine RW.op1 rfl (runs_move rfl) ?_
              refine RW.on_guard rfl rfl rfl rfl hb25 ?_
              refine RW.op1 rfl (runs_eqI rfl rfl) ?_
              refine RW.op1 rfl (runs_pick_false rfl hb25 rfl) ?_
              refine RW.op1 rfl (runs_assign rfl) ?_
              refine RW.done ?_
              exact AQ.meet () hst ⟨boolN (by unfold nameP; simp only [decide_eq_true_eq, true_iff, Bool.false_eq_true, false_iff]; omega), trivial⟩
          · have hb20p := hb20
            try simp only [decide_eq_true_eq, decide_eq_false_iff_not] at hb20p
            refine RW.off_guard rfl rfl rfl rfl hb20 ?_
            refine RW.off_guard rfl rfl rfl rfl hb20 ?_
            refine RW.on_guard rfl rfl rfl rfl hb17 ?_
            refine RW.op1 rfl (runs_pick_false rfl hb20 rfl) ?_
            refine RW.op1 rfl (runs_pick_false rfl hb17 rfl) ?_
            refine RW.op1 rfl (runs_move rfl) ?_
            refine RW.on_guard rfl rfl rfl rfl rfl ?_
            refine RW.op1 rfl (runs_move rfl) ?_
            refine RW.on_guard rfl rfl rfl rfl rfl ?_
            refine RW.op1 rfl (runs_eqI rfl rfl) ?_
            refine RW.op1 rfl (runs_pick_false rfl rfl rfl) ?_
            refine RW.op1 rfl (runs_assign rfl) ?_
            refine RW.done ?_
            exact AQ.meet () hst ⟨boolN (by unfold nameP; simp only [decide_eq_true_eq, true_iff, Bool.false_eq_true, false_iff]; omega), trivial⟩
      · have hb12p := hb12
        try simp only [decide_eq_true_eq, decide_eq_false_iff_not] at hb12p
        refine RW.off_guard rfl rfl rfl rfl hb12 ?_
        refine RW.off_guard rfl rfl rfl rfl hb12 ?_
        refine RW.on_guard rfl rfl rfl rfl rfl ?_
        refine RW.op1 rfl (runs_pick_false rfl hb12 rfl) ?_
        refine RW.op1 rfl (runs_pick_false rfl rfl rfl) ?_
        refine RW.op1 rfl (runs_move rfl) ?_
        refine RW.on_guard rfl rfl rfl rfl rfl ?_
        refine RW.op1 rfl (runs_move rfl) ?_
        refine RW.on_guard rfl rfl rfl rfl rfl ?_
        refine RW.op1 rfl (runs_geq rfl rfl) ?_
        refine RW.on_guard rfl rfl rfl rfl rfl ?_
        refine RW.op1 rfl (runs_move rfl) ?_
        refine RW.split (t := 20) rfl (fun hb20 => ?_) (fun hb20 => ?_)
        · have hb20p := hb20
          try simp only [decide_eq_true_eq, decide_eq_false_iff_not] at hb20p
          refine RW.on_guard rfl rfl rfl rfl hb20 ?_
          refine RW.op1 rfl (runs_move rfl) ?_
          refine RW.on_guard rfl rfl rfl rfl hb20 ?_
          refine RW.op1 rfl (runs_leq rfl rfl) ?_
          refine RW.on_guard rfl rfl rfl rfl rfl ?_
          refine RW.op1 rfl (runs_pick_true rfl hb20 rfl) ?_
          refine RW.op1 rfl (runs_pick_false rfl rfl rfl) ?_
          refine RW.op1 rfl (runs_move rfl) ?_
          refine RW.split (t := 25) rfl (fun hb25 => ?_) (fun hb25 => ?_)
          · have hb25p := hb25
            try simp only [decide_eq_true_eq, decide_eq_false_iff_not] at hb25p
            refine RW.off_guard rfl rfl rfl rfl hb25 ?_
            refine RW.off_guard rfl rfl rfl rfl hb25 ?_
            refine RW.op1 rfl (runs_pick_true rfl hb25 rfl) ?_
            refine RW.op1 rfl (runs_assign rfl) ?_
            refine RW.done ?_
            exact AQ.meet () hst ⟨boolN (by unfold nameP; simp only [decide_eq_true_eq, true_iff, Bool.false_eq_true, false_iff]; omega), trivial⟩
          · have hb25p := hb25
            try simp only [decide_eq_true_eq, decide_eq_false_iff_not] at hb25p
            refine RW.on_guard rfl rfl rfl rfl hb25 ?_
            refine RW.op1 rfl (runs_move rfl) ?_
            refine RW.on_guard rfl rfl rfl rfl hb25 ?_
            refine RW.op1 rfl (runs_eqI rfl rfl) ?_
            refine RW.op1 rfl (runs_pick_false rfl hb25 rfl) ?_
            refine RW.op1 rfl (runs_assign rfl) ?_
            refine RW.done ?_
            exact AQ.meet () hst ⟨boolN (by unfold nameP; simp only [decide_eq_true_eq, true_iff, Bool.false_eq_true, false_iff]; omega), trivial⟩
        · have hb20p := hb20
          try simp only [decide_eq_true_eq, decide_eq_false_iff_not] at hb20p
          refine RW.off_guard rfl rfl rfl rfl hb20 ?_
          refine RW.off_guard rfl rfl rfl rfl hb20 ?_
          refine RW.on_guard rfl rfl rfl rfl rfl ?_
          refine RW.op1 rfl (runs_pick_false rfl hb20 rfl) ?_
          refine RW.op1 rfl (runs_pick_false rfl rfl rfl) ?_
          refine RW.op1 rfl (runs_move rfl) ?_
          refine RW.on_guard rfl rfl rfl rfl rfl ?_
          refine RW.op1 rfl (runs_move rfl) ?_
          refine RW.on_guard rfl rfl rfl rfl rfl ?_
          refine RW.op1 rfl (runs_eqI rfl rfl) ?_
          refine RW.op1 rfl (runs_pick_false rfl rfl rfl) ?_
          refine RW.op1 rfl (runs_assign rfl) ?_
          refine RW.done ?_
          exact AQ.meet () hst ⟨boolN (by unfold nameP; simp only [decide_eq_true_eq, true_iff, Bool.false_eq_true, false_iff]; omega), trivial⟩
  · rintro _ w hstn
    clear hst
    have hst := hstn
    clear hstn
    refine AQ.next ?_
    refine CW.ret ?_
    refine AQ.ret1 rfl rfl ?_
    exact ⟨rfl, hst⟩
set_option maxRecDepth 100000 in
set_option maxHeartbeats 1000000 in
theorem named_spec {w0 w : World} {I : Imm} {L : Own} (hst : St w0 w I L) (s : ByteArray) (hs : s.size ≤ 1099511627776) :
    Calls Tryd.prog 31 #[.string s, .int .i64 20] w fun e w' => e = .returned (.bool (nmOk s.toList)) ∧ St w0 w' I L := by
  have hsz := size_toList s
  refine enter Tryd.func31 rfl (N := 26) rfl rfl ?_
  simp only [List.zipIdx_cons, List.zipIdx_nil, List.map_cons, List.map_nil, Nat.zero_add, Nat.reduceAdd]
  have hle := Imm.le.refl I
  refine CW.seq ?_
  -- region 0
  refine CW.region ?_
  refine RW.op1 rfl (runs_assign rfl) ?_
  refine RW.done ?_
  refine AQ.next ?_
  refine CW.seq ?_
  refine CW.seq ?_
  -- region 1
  refine CW.region ?_
  refine RW.op1 rfl (runs_assign rfl) ?_
  refine RW.done ?_
  refine AQ.next ?_
  refine CW.block ?_
  -- loop 1
  refine CW.loop Nat (fun k w => St w0 w I L ∧ k ≤ s.toList.length ∧ ∀ x ∈ s.toList.take k, nmB x = true) (fun k => [(0, .string s), (1, .int .i64 20), (5, .int .i64 (k : Nat))]) (fun k => s.toList.length - k) ⟨0, ⟨hst, Nat.zero_le _, by simp⟩, ⟨rfl, rfl, rfl, trivial⟩⟩ ?_
  rintro k w ⟨hstn, hk, hall⟩
  clear hst
  have hst := hstn
  clear hstn
  refine CW.seq ?_
  refine CW.seq ?_
  -- region 2
  refine CW.region ?_
  refine RW.op1 rfl (runs_move rfl) ?_
  refine RW.op1 rfl (runs_move rfl) ?_
  refine RW.op1 rfl (runs_lenS Tryd.underlying9 rfl) ?_
  refine RW.op1 rfl (runs_lss rfl rfl) ?_
  refine RW.done ?_
  refine AQ.next ?_
  refine CW.cond rfl (fun hc9 => ?_) (fun hc9 => ?_)
  · have hcb9 := hc9
    try simp only [decide_eq_true_eq, decide_eq_false_iff_not] at hc9
    have hk1 : k < s.toList.length := by omega
    have hgd := get_getD hk1
    obtain ⟨c, hc⟩ : ∃ c, s.toList[k] = c := ⟨_, rfl⟩
    rw [hc] at hgd
    refine CW.skip ?_
    refine AQ.next ?_
    refine CW.seq ?_
    refine CW.block ?_
    refine CW.seq ?_
    -- region 4
    refine CW.region ?_
    refine RW.op1 rfl (runs_move rfl) ?_
    refine RW.op1 rfl (runs_move rfl) ?_
    refine RW.op1 rfl (runs_indexL Tryd.underlying9 rfl rfl (by omega) (by omega)) ?_
    rw [show ((k : Nat) : Int).toNat = k from rfl, hgd]
    refine RW.call rfl call42 rfl rfl (nameByte_spec hst c) ?_
    rintro e w ⟨rfl, hstn⟩
    clear hst
    have hst := hstn
    clear hstn
    refine ⟨_, rfl, ?_⟩
    refine RW.op1 rfl (runs_not rfl) ?_
    refine RW.done ?_
    refine AQ.next ?_
    refine CW.cond rfl (fun hc16 => ?_) (fun hc16 => ?_)
    · have hcb16 := hc16
      try simp only [decide_eq_true_eq, decide_eq_false_iff_not] at hc16
      refine CW.seq ?_
      -- region 5
      refine CW.region ?_
      refine RW.op1 rfl (runs_assign rfl) ?_
      refine RW.done ?_
      refine AQ.next ?_
      refine CW.ret ?_
      refine AQ.block_ret ?_
      refine AQ.past_ret ?_
      refine AQ.past_ret ?_
      refine AQ.block_ret ?_
      refine AQ.past_ret ?_
      refine AQ.ret1 rfl rfl ?_
      have h0 : nmOk s.toList = false := by
        unfold nmOk
        rw [show s.toList.all nmB = false from by
          rw [List.all_eq_false]
          exact ⟨_, List.getElem_mem hk1, by rw [hc]; simpa using hc16⟩, Bool.and_false]
      rw [h0]
      exact ⟨rfl, hst⟩
    · have hcb16 := hc16
      try simp only [decide_eq_true_eq, decide_eq_false_iff_not] at hc16
      refine CW.skip ?_
      refine AQ.block_normal ?_
      refine AQ.next ?_
      -- region 3
      refine CW.region ?_
      refine RW.op1 rfl (runs_move rfl) ?_
      refine RW.op1 rfl (runs_add rfl rfl (by omega)) ?_
      refine RW.op1 rfl (runs_assign rfl) ?_
      refine RW.done ?_
      exact AQ.again (x := k) (k + 1) ⟨hst, by omega, takeE_more hall hk1 (by rw [hc]; simpa using hc16)⟩ ⟨rfl, rfl, rfl, trivial⟩ (by omega)
  · have hcb9 := hc9
    try simp only [decide_eq_true_eq, decide_eq_false_iff_not] at hc9
    skip
    refine CW.exit ?_
    refine AQ.past_exit ?_
    refine AQ.past_exit ?_
    refine AQ.block_hit ?_
    refine AQ.next ?_
    refine CW.seq ?_
    -- region 6
    refine CW.cut Unit (fun _ w => St w0 w I L) (fun _ => [(4, .bool (decide (1 ≤ s.toList.length ∧ s.toList.length ≤ 20)))]) ?_ ?_
    · -- region 6
      refine CW.region ?_
      refine RW.op1 rfl (runs_move rfl) ?_
      refine RW.op1 rfl (runs_lenS Tryd.underlying9 rfl) ?_
      refine RW.op1 rfl (runs_geq rfl rfl) ?_
      refine RW.op1 rfl (runs_move rfl) ?_
      refine RW.split (t := 20) rfl (fun hb20 => ?_) (fun hb20 => ?_)
      · have hb20p := hb20
        try simp only [decide_eq_true_eq, decide_eq_false_iff_not] at hb20p
        refine RW.on_guard rfl rfl rfl rfl hb20 ?_
        refine RW.op1 rfl (runs_move rfl) ?_
        refine RW.on_guard rfl rfl rfl rfl hb20 ?_
        refine RW.op1 rfl (runs_lenS Tryd.underlying9 rfl) ?_
        refine RW.on_guard rfl rfl rfl rfl hb20 ?_
        refine RW.op1 rfl (runs_move rfl) ?_
        refine RW.on_guard rfl rfl rfl rfl hb20 ?_
        refine RW.op1 rfl (runs_leq rfl rfl) ?_
        refine RW.op1 rfl (runs_pick_true rfl hb20 rfl) ?_
        refine RW.op1 rfl (runs_assign rfl) ?_
        refine RW.done ?_
        exact AQ.meet () hst ⟨boolN (by simp only [decide_eq_true_eq, Bool.false_eq_true, false_iff]; omega), trivial⟩
      · have hb20p := hb20
        try simp only [decide_eq_true_eq, decide_eq_false_iff_not] at hb20p
        refine RW.off_guard rfl rfl rfl rfl hb20 ?_
        refine RW.off_guard rfl rfl rfl rfl hb20 ?_
        refine RW.off_guard rfl rfl rfl rfl hb20 ?_
        refine RW.off_guard rfl rfl rfl rfl hb20 ?_
        refine RW.op1 rfl (runs_pick_false rfl hb20 rfl) ?_
        refine RW.op1 rfl (runs_assign rfl) ?_
        refine RW.done ?_
        exact AQ.meet () hst ⟨boolN (by simp only [decide_eq_true_eq, Bool.false_eq_true, false_iff]; omega), trivial⟩
    · rintro _ w hstn
      clear hst
      have hst := hstn
      clear hstn
      refine AQ.next ?_
      refine CW.ret ?_
      refine AQ.ret1 rfl rfl ?_
      have h0 : nmOk s.toList = decide (1 ≤ s.toList.length ∧ s.toList.length ≤ 20) := by
        unfold nmOk
        rw [List.take_of_length_le (by omega)] at hall
        rw [List.all_eq_true.2 hall, Bool.and_true]
      rw [h0]
      exact ⟨rfl, hst⟩
set_option maxRecDepth 100000 in
set_option maxHeartbeats 1000000 in
theorem valued_spec {w0 w : World} {I : Imm} {L : Own} (hst : St w0 w I L) (s : ByteArray) (hs : s.size ≤ 1099511627776) (h0 : 0 < s.toList.length → s.toList.getD 0 0 ≠ 32) (h1 : 0 < s.toList.length → s.toList.getD (s.toList.length - 1) 0 ≠ 32) :
    Calls Tryd.prog 32 #[.string s, .int .i64 40] w fun e w' => e = .returned (.bool (vlOk s.toList)) ∧ St w0 w' I L := by
  have hsz := size_toList s
  obtain ⟨p, hp⟩ : ∃ c, s.toList.getD 0 0 = c := ⟨_, rfl⟩
  obtain ⟨q, hq⟩ : ∃ c, s.toList.getD (s.toList.length - 1) 0 = c := ⟨_, rfl⟩
  rw [hp] at h0
  rw [hq] at h1
  have h0' : 0 < s.toList.length → p.toNat ≠ 32 := fun h h2 => h0 h (UInt8.toNat.inj h2)
  have h1' : 0 < s.toList.length → q.toNat ≠ 32 := fun h h2 => h1 h (UInt8.toNat.inj h2)
  have hnl : (s.toList == ([] : List UInt8)) = decide (s.toList.length = 0) := by cases s.toList <;> simp
  refine enter Tryd.func32 rfl (N := 43) rfl rfl ?_
  simp only [List.zipIdx_cons, List.zipIdx_nil, List.map_cons, List.map_nil, Nat.zero_add, Nat.reduceAdd]
  have hle := Imm.le.refl I
  refine CW.seq ?_
  -- region 0
  refine CW.region ?_
  refine RW.op1 rfl (runs_assign rfl) ?_
  refine RW.done ?_
  refine AQ.next ?_
  refine CW.seq ?_
  refine CW.seq ?_
  -- region 1
  refine CW.region ?_
  refine RW.op1 rfl (runs_assign rfl) ?_
  refine RW.done ?_
  refine AQ.next ?_
  refine CW.block ?_
  -- loop 1
  refine CW.loop Nat (fun k w => St w0 w I L ∧ k ≤ s.toList.length ∧ ∀ x ∈ s.toList.take k, vlB x = true) (fun k => [(0, .string s), (1, .int .i64 40), (5, .int .i64 (k : Nat))]) (fun k => s.toList.length - k) ⟨0, ⟨hst, Nat.zero_le _, by simp⟩, ⟨rfl, rfl, rfl, trivial⟩⟩ ?_
  rintro k w ⟨hstn, hk, hall⟩
  clear hst
  have hst := hstn
  clear hstn
  refine CW.seq ?_
  refine CW.seq ?_
  -- region 2
  refine CW.region ?_
  refine RW.op1 rfl (runs_move rfl) ?_
  refine RW.op1 rfl (runs_move rfl) ?_
  refine RW.op1 rfl (runs_lenS Tryd.underlying9 rfl) ?_
  refine RW.op1 rfl (runs_lss rfl rfl) ?_
  refine RW.done ?_
  refine AQ.next ?_
  refine CW.cond rfl (fun hc9 => ?_) (fun hc9 => ?_)
  · have hcb9 := hc9
    try simp only [decide_eq_true_eq, decide_eq_false_iff_not] at hc9
    have hk1 : k < s.toList.length := by omega
    have hgd := get_getD hk1
    obtain ⟨c, hc⟩ : ∃ c, s.toList[k] = c := ⟨_, rfl⟩
    rw [hc] at hgd
    refine CW.skip ?_
    refine AQ.next ?_
    refine CW.seq ?_
    refine CW.block ?_
    refine CW.seq ?_
    -- region 4
    refine CW.cut Unit (fun _ w => St w0 w I L) (fun _ => [(0, .string s), (1, .int .i64 40), (5, .int .i64 (k : Nat)), (21, .bool (decide (¬ (32 ≤ c.toNat ∧ c.toNat ≤ 126))))]) ?_ ?_
    · -- region 4
      refine CW.region ?_
      refine RW.op1 rfl (runs_move rfl) ?_
      refine RW.op1 rfl (runs_move rfl) ?_
      refine RW.op1 rfl (runs_indexL Tryd.underlying9 rfl rfl (by omega) (by omega)) ?_
      rw [show ((k : Nat) : Int).toNat = k from rfl, hgd]
      refine RW.op1 rfl (runs_lss rfl rfl) ?_
      refine RW.op1 rfl (runs_move rfl) ?_
      refine RW.split (t := 16) rfl (fun hb16 => ?_) (fun hb16 => ?_)
      · have hb16p := hb16
        try simp only [decide_eq_true_eq, decide_eq_false_iff_not] at hb16p
        refine RW.off_guard rfl rfl rfl rfl hb16 ?_
        refine RW.off_guard rfl rfl rfl rfl hb16 ?_
        refine RW.off_guard rfl rfl rfl rfl hb16 ?_
        refine RW.off_guard rfl rfl rfl rfl hb16 ?_
        refine RW.op1 rfl (runs_pick_true rfl hb16 rfl) ?_
        refine RW.done ?_
        exact AQ.meet () hst ⟨rfl, rfl, rfl, boolN (by simp only [decide_eq_true_eq, true_iff, Bool.false_eq_true, false_iff]; omega), trivial⟩
      · have hb16p := hb16
        try simp only [decide_eq_true_eq, decide_eq_false_iff_not] at hb16p
        refine RW.on_guard rfl rfl rfl rfl hb16 ?_
        refine RW.op1 rfl (runs_move rfl) ?_
        refine RW.on_guard rfl rfl rfl rfl hb16 ?_
        refine RW.op1 rfl (runs_move rfl) ?_
        refine RW.on_guard rfl rfl rfl rfl hb16 ?_
        refine RW.op1 rfl (runs_indexL Tryd.underlying9 rfl rfl (by omega) (by omega)) ?_
        rw [show ((k : Nat) : Int).toNat = k from rfl, hgd]
        refine RW.on_guard rfl rfl rfl rfl hb16 ?_
        refine RW.op1 rfl (runs_gtr rfl rfl) ?_
        refine RW.op1 rfl (runs_pick_false rfl hb16 rfl) ?_
        refine RW.done ?_
        exact AQ.meet () hst ⟨rfl, rfl, rfl, boolN (by simp only [decide_eq_true_eq, true_iff, Bool.false_eq_true, false_iff]; omega), trivial⟩
    · rintro _ w hstn
      clear hst
      have hst := hstn
      clear hstn
      refine AQ.next ?_
      refine CW.cond rfl (fun hc21 => ?_) (fun hc21 => ?_)
      · have hcb21 := hc21
        try simp only [decide_eq_true_eq, decide_eq_false_iff_not] at hc21
        refine CW.seq ?_
        -- region 5
        refine CW.region ?_
        refine RW.op1 rfl (runs_assign rfl) ?_
        refine RW.done ?_
        refine AQ.next ?_
        refine CW.ret ?_
        refine AQ.block_ret ?_
        refine AQ.past_ret ?_
        refine AQ.past_ret ?_
        refine AQ.block_ret ?_
        refine AQ.past_ret ?_
        refine AQ.ret1 rfl rfl ?_
        have h0 : vlOk s.toList = false := by
          unfold vlOk
          rw [show s.toList.all vlB = false from by
            rw [List.all_eq_false]
            exact ⟨_, List.getElem_mem hk1, by rw [hc]; unfold vlB; simpa using hc21⟩, Bool.and_false]
        rw [h0]
        exact ⟨rfl, hst⟩
      · have hcb21 := hc21
        try simp only [decide_eq_true_eq, decide_eq_false_iff_not] at hc21
        refine CW.skip ?_
        refine AQ.block_normal ?_
        refine AQ.next ?_
        -- region 3
        refine CW.region ?_
        refine RW.op1 rfl (runs_move rfl) ?_
        refine RW.op1 rfl (runs_add rfl rfl (by omega)) ?_
        refine RW.op1 rfl (runs_assign rfl) ?_
        refine RW.done ?_
        exact AQ.again (x := k) (k + 1) ⟨hst, by omega, takeE_more hall hk1 (by rw [hc]; unfold vlB; simpa using hc21)⟩ ⟨rfl, rfl, rfl, trivial⟩ (by omega)
  · have hcb9 := hc9
    try simp only [decide_eq_true_eq, decide_eq_false_iff_not] at hc9
    skip
    refine CW.exit ?_
    refine AQ.past_exit ?_
    refine AQ.past_exit ?_
    refine AQ.block_hit ?_
    refine AQ.next ?_
    refine CW.seq ?_
    -- region 6
    refine CW.cut Unit (fun _ w => St w0 w I L) (fun _ => [(4, .bool (decide (s.toList.length ≤ 40)))]) ?_ ?_
    · -- region 6
      refine CW.region ?_
      refine RW.op1 rfl (runs_move rfl) ?_
      refine RW.op1 rfl (runs_lenS Tryd.underlying9 rfl) ?_
      refine RW.op1 rfl (runs_move rfl) ?_
      refine RW.op1 rfl (runs_leq rfl rfl) ?_
      refine RW.op1 rfl (runs_move rfl) ?_
      refine RW.split (t := 26) rfl (fun hb26 => ?_) (fun hb26 => ?_)
      · have hb26p := hb26
        try simp only [decide_eq_true_eq, decide_eq_false_iff_not] at hb26p
        refine RW.on_guard rfl rfl rfl rfl hb26 ?_
        refine RW.op1 rfl (runs_move rfl) ?_
        refine RW.on_guard rfl rfl rfl rfl hb26 ?_
        refine RW.op1 rfl (runs_eqS rfl rfl) ?_
        refine RW.on_guard rfl rfl rfl rfl hb26 ?_
        refine RW.op1 rfl (runs_move rfl) ?_
        refine RW.split (t := 29) rfl (fun hb29 => ?_) (fun hb29 => ?_)
        · have hb29p := hb29
          try simp only [decide_eq_true_eq, decide_eq_false_iff_not] at hb29p
          have h29 : s.toList.length = 0 := by rw [emptyL, hnl] at hb29; simpa using hb29
          refine RW.off_guard rfl rfl rfl rfl hb29 ?_
          refine RW.off_guard rfl rfl rfl rfl hb29 ?_
          refine RW.off_guard rfl rfl rfl rfl hb29 ?_
          refine RW.off_guard rfl rfl rfl rfl hb29 ?_
          refine RW.off_undef rfl rfl rfl rfl ?_
          refine RW.off_undef rfl rfl rfl rfl ?_
          refine RW.off_undef rfl rfl rfl rfl ?_
          refine RW.off_undef rfl rfl rfl rfl ?_
          refine RW.off_undef rfl rfl rfl rfl ?_
          refine RW.off_undef rfl rfl rfl rfl ?_
          refine RW.off_guard rfl rfl rfl rfl hb29 ?_
          refine RW.on_guard rfl rfl rfl rfl hb26 ?_
          refine RW.op1 rfl (runs_pick_true rfl hb29 rfl) ?_
          refine RW.op1 rfl (runs_pick_true rfl hb26 rfl) ?_
          refine RW.op1 rfl (runs_assign rfl) ?_
          refine RW.done ?_
          exact AQ.meet () hst ⟨boolN (by simp only [decide_eq_true_eq, ne_eq, decide_not, Bool.not_eq_true', decide_eq_false_iff_not, Bool.true_eq, Bool.false_eq_true, true_iff, false_iff]; omega), trivial⟩
        · have hb29p := hb29
          try simp only [decide_eq_true_eq, decide_eq_false_iff_not] at hb29p
          have h29 : 0 < s.toList.length := by
            rw [emptyL, hnl] at hb29
            have : s.toList.length ≠ 0 := by simpa using hb29
            omega
          refine RW.on_guard rfl rfl rfl rfl hb29 ?_
          refine RW.op1 rfl (runs_move rfl) ?_
          refine RW.on_guard rfl rfl rfl rfl hb29 ?_
          refine RW.op1 rfl (runs_indexL Tryd.underlying9 rfl rfl (by omega) (by omega)) ?_
          rw [show ((0 : Int)).toNat = 0 from rfl, hp]
          refine RW.on_guard rfl rfl rfl rfl hb29 ?_
          refine RW.op1 rfl (runs_neI rfl rfl) ?_
          refine RW.on_guard rfl rfl rfl rfl hb29 ?_
          refine RW.op1 rfl (runs_move rfl) ?_
          refine RW.split (t := 33) rfl (fun hb33 => ?_) (fun hb33 => ?_)
          · have hb33p := hb33
            try simp only [decide_eq_true_eq, decide_eq_false_iff_not] at hb33p
            refine RW.on_guard rfl rfl rfl rfl hb33 ?_
            refine RW.op1 rfl (runs_move rfl) ?_
            refine RW.on_guard rfl rfl rfl rfl hb33 ?_
            refine RW.op1 rfl (runs_move rfl) ?_
            refine RW.on_guard rfl rfl rfl rfl hb33 ?_
            refine RW.op1 rfl (runs_lenS Tryd.underlying9 rfl) ?_
            refine RW.on_guard rfl rfl rfl rfl hb33 ?_
            refine RW.op1 rfl (runs_sub rfl rfl (by omega)) ?_
            refine RW.on_guard rfl rfl rfl rfl hb33 ?_
            refine RW.op1 rfl (runs_indexL Tryd.underlying9 rfl rfl (by omega) (by omega)) ?_
            rw [show (((s.size : Nat) : Int) - 1).toNat = s.toList.length - 1 by omega, hq]
            refine RW.on_guard rfl rfl rfl rfl hb33 ?_
            refine RW.op1 rfl (runs_neI rfl rfl) ?_
            refine RW.on_guard rfl rfl rfl rfl hb29 ?_
            refine RW.op1 rfl (runs_pick_true rfl hb33 rfl) ?_
            refine RW.on_guard rfl rfl rfl rfl hb26 ?_
            refine RW.op1 rfl (runs_pick_false rfl hb29 rfl) ?_
            refine RW.op1 rfl (runs_pick_true rfl hb26 rfl) ?_
            refine RW.op1 rfl (runs_assign rfl) ?_
            refine RW.done ?_
            exact AQ.meet () hst ⟨boolN (by simp only [decide_eq_true_eq, ne_eq, decide_not, Bool.not_eq_true', decide_eq_false_iff_not, Bool.true_eq, Bool.false_eq_true, true_iff, false_iff]; omega), trivial⟩
          · have hb33p := hb33
            try simp only [decide_eq_true_eq, decide_eq_false_iff_not] at hb33p
            refine RW.off_guard rfl rfl rfl rfl hb33 ?_
            refine RW.off_guard rfl rfl rfl rfl hb33 ?_
            refine RW.off_guard rfl rfl rfl rfl hb33 ?_
            refine RW.off_guard rfl rfl rfl rfl hb33 ?_
            refine RW.off_guard rfl rfl rfl rfl hb33 ?_
            refine RW.off_guard rfl rfl rfl rfl hb33 ?_
            refine RW.on_guard rfl rfl rfl rfl hb29 ?_
            refine RW.op1 rfl (runs_pick_false rfl hb33 rfl) ?_
            refine RW.on_guard rfl rfl rfl rfl hb26 ?_
            refine RW.op1 rfl (runs_pick_false rfl hb29 rfl) ?_
            refine RW.op1 rfl (runs_pick_true rfl hb26 rfl) ?_
            refine RW.op1 rfl (runs_assign rfl) ?_
            refine RW.done ?_
            exact AQ.meet () hst ⟨boolN (by simp only [decide_eq_true_eq, ne_eq, decide_not, Bool.not_eq_true', decide_eq_false_iff_not, Bool.true_eq, Bool.false_eq_true, true_iff, false_iff]; omega), trivial⟩
      · have hb26p := hb26
        try simp only [decide_eq_true_eq, decide_eq_false_iff_not] at hb26p
        refine RW.off_guard rfl rfl rfl rfl hb26 ?_
        refine RW.off_guard rfl rfl rfl rfl hb26 ?_
        refine RW.off_guard rfl rfl rfl rfl hb26 ?_
        refine RW.off_undef rfl rfl rfl rfl ?_
        refine RW.off_undef rfl rfl rfl rfl ?_
        refine RW.off_undef rfl rfl rfl rfl ?_
        refine RW.off_undef rfl rfl rfl rfl ?_
        refine RW.off_undef rfl rfl rfl rfl ?_
        refine RW.off_undef rfl rfl rfl rfl ?_
        refine RW.off_undef rfl rfl rfl rfl ?_
        refine RW.off_undef rfl rfl rfl rfl ?_
        refine RW.off_undef rfl rfl rfl rfl ?_
        refine RW.off_undef rfl rfl rfl rfl ?_
        refine RW.off_undef rfl rfl rfl rfl ?_
        refine RW.off_guard rfl rfl rfl rfl hb26 ?_
        refine RW.op1 rfl (runs_pick_false rfl hb26 rfl) ?_
        refine RW.op1 rfl (runs_assign rfl) ?_
        refine RW.done ?_
        exact AQ.meet () hst ⟨boolN (by simp only [decide_eq_true_eq, ne_eq, decide_not, Bool.not_eq_true', decide_eq_false_iff_not, Bool.true_eq, Bool.false_eq_true, true_iff, false_iff]; omega), trivial⟩
    · rintro _ w hstn
      clear hst
      have hst := hstn
      clear hstn
      refine AQ.next ?_
      refine CW.ret ?_
      refine AQ.ret1 rfl rfl ?_
      have h0 : vlOk s.toList = decide (s.toList.length ≤ 40) := by
        unfold vlOk
        rw [List.take_of_length_le (by omega)] at hall
        rw [List.all_eq_true.2 hall, Bool.and_true]
      rw [h0]
      exact ⟨rfl, hst⟩
end Go.Proofs.YtfjghkmapccjhaaDoorX
