/- The document's texts cut at bytes, digits, tags, spans: what these come to. -/
import Derived.Test.YtfjghkmapccjhaaDoorT
import Derived.Test.YtfjghkmapccjhaaDoorJ5
namespace Go.Proofs.YtfjghkmapccjhaaDoorX
set_option linter.unusedVariables false
set_option linter.unusedSimpArgs false
open Go Go.RowKit Go.Proofs

set_option maxRecDepth 100000 in
set_option maxHeartbeats 1000000 in
theorem refLower_spec {w0 w : World} {I : Imm} {L : Own} (hst : St w0 w I L) (s : ByteArray) (hs : s.size ≤ 9223372036854775807) :
    Calls Tryd.prog 33 #[.string s] w fun e w' => ∃ I' , Imm.le I I' ∧ e = .returned (.string (strOf (lower s.toList))) ∧ St w0 w' I' L := by
  have hsl := size_toList s
  refine enter Tryd.func33 rfl (N := 29) rfl rfl ?_
  simp only [List.zipIdx_cons, List.zipIdx_nil, List.map_cons, List.map_nil, Nat.zero_add, Nat.reduceAdd]
  have hle := Imm.le.refl I
  refine CW.seq ?_
  -- region 0
  refine CW.region ?_
  refine RW.op1 rfl (runs_assign rfl) ?_
  refine RW.done ?_
  refine AQ.next ?_
  refine CW.seq ?_
  -- region 1
  refine CW.region ?_
  refine RW.op1 rfl (runs_move rfl) ?_
  refine RW.opE rfl (runs_bytesOf Tryd.underlying9 Tryd.underlying36 Tryd.underlying5 rfl hst) ?_
  rintro _ w ⟨b7, cap7, pad7, rfl, hcap7, hstn⟩
  clear hst
  have hst := hstn
  clear hstn
  refine RW.op1 rfl (runs_assign rfl) ?_
  refine RW.done ?_
  refine AQ.next ?_
  refine CW.seq ?_
  refine CW.seq ?_
  -- region 2
  refine CW.region ?_
  refine RW.op1 rfl (runs_move rfl) ?_
  first
    | refine RW.op1 rfl (RdL.len Tryd.underlying36 rfl (by assumption)) ?_
    | refine RW.op1 rfl (runs_lenL Tryd.underlying36 rfl) ?_
    | refine RW.op1 rfl (Grow.len Tryd.underlying36 rfl (by assumption)) ?_
  refine RW.op1 rfl (runs_move rfl) ?_
  refine RW.done ?_
  refine AQ.next ?_
  refine CW.block ?_
  -- loop 1
  refine CW.loop Nat (fun k w => St w0 w I ((b7, rowB (lowTo s.toList k) pad7 5) :: L) ∧ k ≤ s.toList.length) (fun k => [(3, .slice (some ⟨b7, 0, none⟩) s.toList.length cap7), (8, .slice (some ⟨b7, 0, none⟩) s.toList.length cap7), (9, .int .i64 (s.toList.length : Int)), (10, .int .i64 (k : Int))]) (fun k => s.toList.length - k) ⟨0, ⟨by rw [lowTo_zero]; exact hst, Nat.zero_le _⟩, ⟨rfl, rfl, rfl, rfl, trivial⟩⟩ ?_
  rintro k w ⟨hstn, hk⟩
  clear hst
  have hst := hstn
  clear hstn
  refine CW.seq ?_
  -- region 3
  refine CW.region ?_
  refine RW.op1 rfl (runs_lss rfl rfl) ?_
  refine RW.done ?_
  refine AQ.next ?_
  refine CW.seq ?_
  refine CW.cond rfl (fun hc11 => ?_) (fun hc11 => ?_)
  · have hcb11 := hc11
    try simp only [decide_eq_true_eq, decide_eq_false_iff_not] at hc11
    have hk1 : k < s.toList.length := by omega
    have hget := rowB_get (bs := lowTo s.toList k) (pad := pad7) (k := k) (by rw [lowTo_length]; exact hk1)
    rw [lowTo_get hk1] at hget
    obtain ⟨c, hc⟩ : ∃ c, s.toList[k] = c := ⟨_, rfl⟩
    rw [hc] at hget
    have hcl := c.toNat_lt
    refine CW.skip ?_
    refine AQ.next ?_
    refine CW.seq ?_
    refine CW.block ?_
    refine CW.seq ?_
    -- region 4
    refine CW.region ?_
    refine RW.op1 rfl (runs_move rfl) ?_
    refine RW.op1 rfl (runs_indexAddr0 Tryd.underlying36 ti5 rfl rfl (by omega)) ?_
    refine RW.op1 rfl (runs_load1 sc5 rfl (hst.cell_own (k := 0) rfl (by rw [Nat.zero_add, Int.toNat_natCast, Nat.mul_one]; exact hget))) ?_
    refine RW.op1 rfl (runs_assign rfl) ?_
    refine RW.op1 rfl (runs_assign rfl) ?_
    refine RW.done ?_
    refine AQ.next ?_
    refine CW.seq ?_
    -- region 5
    refine CW.region ?_
    refine RW.op1 rfl (runs_move rfl) ?_
    refine RW.op1 rfl (runs_geq rfl rfl) ?_
    refine RW.op1 rfl (runs_move rfl) ?_
    refine RW.split (t := 17) rfl (fun hb17 => ?_) (fun hb17 => ?_)
    · have hb17p := hb17
      try simp only [decide_eq_true_eq, decide_eq_false_iff_not] at hb17p
      refine RW.on_guard rfl rfl rfl rfl hb17 ?_
      refine RW.op1 rfl (runs_move rfl) ?_
      refine RW.on_guard rfl rfl rfl rfl hb17 ?_
      refine RW.op1 rfl (runs_leq rfl rfl) ?_
      refine RW.op1 rfl (runs_pick_true rfl hb17 rfl) ?_
      refine RW.done ?_
      refine AQ.next ?_
      refine CW.cond rfl (fun hc20 => ?_) (fun hc20 => ?_)
      · have hcb20 := hc20
        try simp only [decide_eq_true_eq, decide_eq_false_iff_not] at hc20
        -- region 6
        refine CW.region ?_
        refine RW.op1 rfl (runs_move rfl) ?_
        refine RW.op1 rfl (runs_move rfl) ?_
        refine RW.op1 rfl (runs_move rfl) ?_
        refine RW.op1 rfl (runs_addW rfl rfl) ?_
        refine RW.op1 rfl (runs_indexAddr0 Tryd.underlying36 ti5 rfl rfl (by omega)) ?_
        refine RW.opE0 (runs_store1' ti5 rfl rfl hst (k := 0) rfl (by simp [lowTo_length]; omega) (NoFz.behind _) rfl) ?_
        rintro w hstn
        clear hst
        have hst := hstn
        clear hstn
        try simp only [List.set_cons_zero, List.set_cons_succ] at hst
        refine RW.done ?_
        refine AQ.block_normal ?_
        refine AQ.next ?_
        -- region 7
        refine CW.region ?_
        refine RW.op1 rfl (runs_add rfl rfl (by omega)) ?_
        refine RW.op1 rfl (runs_move rfl) ?_
        refine RW.done ?_
        have hlc : lowB c = u8 ((c.toNat : Int) + 32) := by unfold lowB; rw [if_pos (by omega)]
        have hv : Value.int .u8 (IntKind.u8.wrap ((c.toNat : Int) + 32)) = b8 (lowB c) := by
          rw [hlc]; unfold b8; rw [u8_toNat, IntKind.wrap_u8]
        have hset := rowB_set (bs := lowTo s.toList k) (pad := pad7) (lowB c) (k := k) (by rw [lowTo_length]; exact hk1)
        rw [lowTo_set hk1 (lowB c) (by rw [hc])] at hset
        simp only [Nat.zero_add, Int.toNat_natCast, Nat.mul_one] at hst
        rw [hv, hset, show ((lowTo s.toList k).map b8 ++ pad7).length = ((lowTo s.toList (k + 1)).map b8 ++ pad7).length by simp [lowTo_length]] at hst
        exact AQ.again (k + 1) ⟨hst, by omega⟩ ⟨rfl, rfl, rfl, rfl, trivial⟩ (by omega)
      · have hcb20 := hc20
        try simp only [decide_eq_true_eq, decide_eq_false_iff_not] at hc20
        refine CW.skip ?_
        refine AQ.block_normal ?_
        refine AQ.next ?_
        -- region 7
        refine CW.region ?_
        refine RW.op1 rfl (runs_add rfl rfl (by omega)) ?_
        refine RW.op1 rfl (runs_move rfl) ?_
        refine RW.done ?_
        have hlc : lowB s.toList[k] = s.toList[k] := by rw [hc]; unfold lowB; rw [if_neg (by omega)]
        exact AQ.again (k + 1) ⟨by rw [← lowTo_same hk1 hlc]; exact hst, by omega⟩ ⟨rfl, rfl, rfl, rfl, trivial⟩ (by omega)
    · have hb17p := hb17
      try simp only [decide_eq_true_eq, decide_eq_false_iff_not] at hb17p
      refine RW.off_guard rfl rfl rfl rfl hb17 ?_
      refine RW.off_guard rfl rfl rfl rfl hb17 ?_
      refine RW.op1 rfl (runs_pick_false rfl hb17 rfl) ?_
      refine RW.done ?_
      refine AQ.next ?_
      refine CW.cond_false rfl ?_
      refine CW.skip ?_
      refine AQ.block_normal ?_
      refine AQ.next ?_
      -- region 7
      refine CW.region ?_
      refine RW.op1 rfl (runs_add rfl rfl (by omega)) ?_
      refine RW.op1 rfl (runs_move rfl) ?_
      refine RW.done ?_
      have hlc : lowB s.toList[k] = s.toList[k] := by rw [hc]; unfold lowB; rw [if_neg (by omega)]
      exact AQ.again (k + 1) ⟨by rw [← lowTo_same hk1 hlc]; exact hst, by omega⟩ ⟨rfl, rfl, rfl, rfl, trivial⟩ (by omega)
  · have hcb11 := hc11
    try simp only [decide_eq_true_eq, decide_eq_false_iff_not] at hc11
    skip
    refine CW.exit ?_
    refine AQ.past_exit ?_
    refine AQ.past_exit ?_
    refine AQ.block_hit ?_
    refine AQ.next ?_
    refine CW.seq ?_
    -- region 8
    refine CW.region ?_
    have hke : k = s.toList.length := by omega
    subst hke
    rw [lowTo_end] at hst
    obtain ⟨I8, hI8, hstn, hr⟩ := rowB_freeze (cap := cap7) hst (by simp [lower]; omega)
    clear hst
    have hst := hstn
    clear hstn
    rw [show s.toList.length = (lower s.toList).length by simp [lower]]
    refine RW.op1 rfl (runs_move rfl) ?_
    refine RW.op1 rfl (RdB.string Tryd.underlying36 Tryd.underlying5 Tryd.underlying9 rfl hr hst) ?_
    refine RW.op1 rfl (runs_assign rfl) ?_
    refine RW.done ?_
    refine AQ.next ?_
    refine CW.ret ?_
    refine AQ.ret1 rfl rfl ?_
    exact ⟨I8, hI8, rfl, hst⟩
set_option maxRecDepth 100000 in
set_option maxHeartbeats 1000000 in
theorem figures_spec {w0 w : World} {I : Imm} {L : Own} (hst : St w0 w I L) (s : ByteArray) (hs : s.size ≤ 9223372036854775807) :
    Calls Tryd.prog 19 #[.string s, .int .i64 1, .int .i64 6] w fun e w' => e = .returned (.tuple #[.int .i64 ((numberR s.toList).getD 0), .bool (numberR s.toList).isSome]) ∧ St w0 w' I L := by
  have hsl := size_toList s
  refine enter Tryd.func19 rfl (N := 45) rfl rfl ?_
  simp only [List.zipIdx_cons, List.zipIdx_nil, List.map_cons, List.map_nil, Nat.zero_add, Nat.reduceAdd]
  have hle := Imm.le.refl I
  refine CW.seq ?_
  -- region 0
  refine CW.region ?_
  refine RW.op1 rfl (runs_assign rfl) ?_
  refine RW.op1 rfl (runs_assign rfl) ?_
  refine RW.done ?_
  refine AQ.next ?_
  refine CW.seq ?_
  refine CW.seq ?_
  -- region 1
  refine CW.region ?_
  refine RW.op1 rfl (runs_move rfl) ?_
  refine RW.op1 rfl (runs_lenS Tryd.underlying9 rfl) ?_
  refine RW.op1 rfl (runs_move rfl) ?_
  refine RW.op1 rfl (runs_lss rfl rfl) ?_
  refine RW.op1 rfl (runs_move rfl) ?_
  refine RW.split (t := 14) rfl (fun hb14 => ?_) (fun hb14 => ?_)
  · have hb14p := hb14
    try simp only [decide_eq_true_eq, decide_eq_false_iff_not] at hb14p
    refine RW.off_guard rfl rfl rfl rfl hb14 ?_
    refine RW.off_guard rfl rfl rfl rfl hb14 ?_
    refine RW.off_guard rfl rfl rfl rfl hb14 ?_
    refine RW.off_guard rfl rfl rfl rfl hb14 ?_
    refine RW.op1 rfl (runs_pick_true rfl hb14 rfl) ?_
    refine RW.done ?_
    refine AQ.next ?_
    refine CW.cond_true rfl ?_
    refine CW.seq ?_
    -- region 2
    refine CW.region ?_
    refine RW.op1 rfl (runs_assign rfl) ?_
    refine RW.op1 rfl (runs_assign rfl) ?_
    refine RW.done ?_
    refine AQ.next ?_
    refine CW.ret ?_
    refine AQ.past_ret ?_
    refine AQ.ret2 rfl rfl rfl ?_
    rw [number_len (by omega)]
    exact ⟨rfl, hst⟩
  · have hb14p := hb14
    try simp only [decide_eq_true_eq, decide_eq_false_iff_not] at hb14p
    refine RW.on_guard rfl rfl rfl rfl hb14 ?_
    refine RW.op1 rfl (runs_move rfl) ?_
    refine RW.on_guard rfl rfl rfl rfl hb14 ?_
    refine RW.op1 rfl (runs_lenS Tryd.underlying9 rfl) ?_
    refine RW.on_guard rfl rfl rfl rfl hb14 ?_
    refine RW.op1 rfl (runs_move rfl) ?_
    refine RW.on_guard rfl rfl rfl rfl hb14 ?_
    refine RW.op1 rfl (runs_gtr rfl rfl) ?_
    refine RW.op1 rfl (runs_pick_false rfl hb14 rfl) ?_
    refine RW.done ?_
    refine AQ.next ?_
    refine CW.cond rfl (fun hc19 => ?_) (fun hc19 => ?_)
    · have hcb19 := hc19
      try simp only [decide_eq_true_eq, decide_eq_false_iff_not] at hc19
      refine CW.seq ?_
      -- region 2
      refine CW.region ?_
      refine RW.op1 rfl (runs_assign rfl) ?_
      refine RW.op1 rfl (runs_assign rfl) ?_
      refine RW.done ?_
      refine AQ.next ?_
      refine CW.ret ?_
      refine AQ.past_ret ?_
      refine AQ.ret2 rfl rfl rfl ?_
      rw [number_len (by omega)]
      exact ⟨rfl, hst⟩
    · have hcb19 := hc19
      try simp only [decide_eq_true_eq, decide_eq_false_iff_not] at hc19
      refine CW.skip ?_
      refine AQ.next ?_
      refine CW.seq ?_
      -- region 3
      refine CW.region ?_
      refine RW.op1 rfl (runs_assign rfl) ?_
      refine RW.done ?_
      refine AQ.next ?_
      refine CW.seq ?_
      refine CW.seq ?_
      -- region 4
      refine CW.region ?_
      refine RW.op1 rfl (runs_assign rfl) ?_
      refine RW.done ?_
      refine AQ.next ?_
      refine CW.block ?_
      -- loop 1
      refine CW.loop Nat (fun k w => St w0 w I L ∧ k ≤ s.size ∧ (s.toList.take k).all isDigit = true) (fun k => [(0, .string s), (8, .int .i64 ((s.toList.take k).foldl digStep 0)), (9, .int .i64 (k : Int))]) (fun k => s.size - k) ⟨0, ⟨hst, Nat.zero_le _, by simp⟩, ⟨rfl, rfl, rfl, trivial⟩⟩ ?_
      rintro k w ⟨hstn, hk, hall⟩
      clear hst
      have hst := hstn
      clear hstn
      refine CW.seq ?_
      refine CW.seq ?_
      -- region 5
      refine CW.region ?_
      refine RW.op1 rfl (runs_move rfl) ?_
      refine RW.op1 rfl (runs_move rfl) ?_
      refine RW.op1 rfl (runs_lenS Tryd.underlying9 rfl) ?_
      refine RW.op1 rfl (runs_lss rfl rfl) ?_
      refine RW.done ?_
      refine AQ.next ?_
      refine CW.cond rfl (fun hc23 => ?_) (fun hc23 => ?_)
      · have hcb23 := hc23
        try simp only [decide_eq_true_eq, decide_eq_false_iff_not] at hc23
        have hk1 : k < s.size := by omega
        have hk2 : k < s.toList.length := by omega
        obtain ⟨c, hc⟩ : ∃ c, s.toList[k] = c := ⟨_, rfl⟩
        have hbg : s[(k : Int).toNat]'(by omega) = c := by rw [← hc]; exact bget hk1
        have hcl := c.toNat_lt
        have hb6 := dig_bound 6 (s.toList.take k) (by rw [List.length_take]; omega) hall
        refine CW.skip ?_
        refine AQ.next ?_
        refine CW.seq ?_
        refine CW.block ?_
        refine CW.seq ?_
        refine CW.seq ?_
        -- region 7
        refine CW.region ?_
        refine RW.op1 rfl (runs_move rfl) ?_
        refine RW.op1 rfl (runs_move rfl) ?_
        refine RW.op1 rfl (runs_indexS Tryd.underlying9 rfl rfl (by omega) (by omega)) ?_
        rw [hbg]
        refine RW.op1 rfl (runs_lss rfl rfl) ?_
        refine RW.op1 rfl (runs_move rfl) ?_
        refine RW.split (t := 30) rfl (fun hb30 => ?_) (fun hb30 => ?_)
        · have hb30p := hb30
          try simp only [decide_eq_true_eq, decide_eq_false_iff_not] at hb30p
          refine RW.off_guard rfl rfl rfl rfl hb30 ?_
          refine RW.off_guard rfl rfl rfl rfl hb30 ?_
          refine RW.off_guard rfl rfl rfl rfl hb30 ?_
          refine RW.off_guard rfl rfl rfl rfl hb30 ?_
          refine RW.op1 rfl (runs_pick_true rfl hb30 rfl) ?_
          refine RW.done ?_
          refine AQ.next ?_
          refine CW.cond_true rfl ?_
          refine CW.seq ?_
          -- region 8
          refine CW.region ?_
          refine RW.op1 rfl (runs_assign rfl) ?_
          refine RW.op1 rfl (runs_assign rfl) ?_
          refine RW.done ?_
          refine AQ.next ?_
          refine CW.ret ?_
          refine AQ.past_ret ?_
          refine AQ.block_ret ?_
          refine AQ.past_ret ?_
          refine AQ.past_ret ?_
          refine AQ.block_ret ?_
          refine AQ.past_ret ?_
          refine AQ.ret2 rfl rfl rfl ?_
          rw [number_bad hk2 (by rw [hc]; unfold isDigit; rw [Bool.and_eq_false_iff]; simp only [decide_eq_false_iff_not]; omega)]
          exact ⟨rfl, hst⟩
        · have hb30p := hb30
          try simp only [decide_eq_true_eq, decide_eq_false_iff_not] at hb30p
          refine RW.on_guard rfl rfl rfl rfl hb30 ?_
          refine RW.op1 rfl (runs_move rfl) ?_
          refine RW.on_guard rfl rfl rfl rfl hb30 ?_
          refine RW.op1 rfl (runs_move rfl) ?_
          refine RW.on_guard rfl rfl rfl rfl hb30 ?_
          refine RW.op1 rfl (runs_indexS Tryd.underlying9 rfl rfl (by omega) (by omega)) ?_
          rw [hbg]
          refine RW.on_guard rfl rfl rfl rfl hb30 ?_
          refine RW.op1 rfl (runs_gtr rfl rfl) ?_
          refine RW.op1 rfl (runs_pick_false rfl hb30 rfl) ?_
          refine RW.done ?_
          refine AQ.next ?_
          refine CW.cond rfl (fun hc35 => ?_) (fun hc35 => ?_)
          · have hcb35 := hc35
            try simp only [decide_eq_true_eq, decide_eq_false_iff_not] at hc35
            refine CW.seq ?_
            -- region 8
            refine CW.region ?_
            refine RW.op1 rfl (runs_assign rfl) ?_
            refine RW.op1 rfl (runs_assign rfl) ?_
            refine RW.done ?_
            refine AQ.next ?_
            refine CW.ret ?_
            refine AQ.past_ret ?_
            refine AQ.block_ret ?_
            refine AQ.past_ret ?_
            refine AQ.past_ret ?_
            refine AQ.block_ret ?_
            refine AQ.past_ret ?_
            refine AQ.ret2 rfl rfl rfl ?_
            rw [number_bad hk2 (by rw [hc]; unfold isDigit; rw [Bool.and_eq_false_iff]; simp only [decide_eq_false_iff_not]; omega)]
            exact ⟨rfl, hst⟩
          · have hcb35 := hc35
            try simp only [decide_eq_true_eq, decide_eq_false_iff_not] at hc35
            refine CW.skip ?_
            refine AQ.next ?_
            -- region 9
            refine CW.region ?_
            refine RW.op1 rfl (runs_move rfl) ?_
            refine RW.op1 rfl (runs_mul rfl rfl (by omega)) ?_
            refine RW.op1 rfl (runs_move rfl) ?_
            refine RW.op1 rfl (runs_move rfl) ?_
            refine RW.op1 rfl (runs_indexS Tryd.underlying9 rfl rfl (by omega) (by omega)) ?_
            rw [hbg]
            refine RW.op1 rfl (runs_subW rfl rfl) ?_
            rw [show IntKind.u8.wrap ((c.toNat : Int) - 48) = (c.toNat : Int) - 48 by rw [IntKind.wrap_u8]; omega]
            refine RW.op1 rfl (runs_conv64 (by rw [Tryd.underlying5]; rfl) Tryd.underlying3 rfl (by omega)) ?_
            refine RW.op1 rfl (runs_add rfl rfl (by omega)) ?_
            refine RW.op1 rfl (runs_assign rfl) ?_
            refine RW.done ?_
            refine AQ.block_normal ?_
            refine AQ.next ?_
            -- region 6
            refine CW.region ?_
            refine RW.op1 rfl (runs_move rfl) ?_
            refine RW.op1 rfl (runs_add rfl rfl (by omega)) ?_
            refine RW.op1 rfl (runs_assign rfl) ?_
            refine RW.done ?_
            have hd : isDigit s.toList[k] = true := by rw [hc]; unfold isDigit; simp only [Bool.and_eq_true, decide_eq_true_eq]; omega
            exact AQ.again (k + 1) ⟨hst, by omega, digN_all hall hk2 hd⟩ ⟨rfl, by rw [dig_take hk2, hc]; rfl, rfl, trivial⟩ (by omega)
      · have hcb23 := hc23
        try simp only [decide_eq_true_eq, decide_eq_false_iff_not] at hc23
        skip
        refine CW.exit ?_
        refine AQ.past_exit ?_
        refine AQ.past_exit ?_
        refine AQ.block_hit ?_
        refine AQ.next ?_
        refine CW.seq ?_
        -- region 10
        refine CW.region ?_
        refine RW.op1 rfl (runs_move rfl) ?_
        refine RW.op1 rfl (runs_assign rfl) ?_
        refine RW.op1 rfl (runs_assign rfl) ?_
        refine RW.done ?_
        refine AQ.next ?_
        refine CW.ret ?_
        refine AQ.ret2 rfl rfl rfl ?_
        have hkt : s.toList.take k = s.toList := List.take_of_length_le (by omega)
        rw [hkt] at hall ⊢
        rw [number_ok (by omega) hall]
        exact ⟨rfl, hst⟩
def dg (k : Nat) : UInt8 := u8 (48 + (k : Int))
/-- A number's digits, with so much room. -/
def digF : Nat → Nat → List UInt8
  | 0, _ => []
  | f + 1, n => if n < 10 then [dg n] else digF f (n / 10) ++ [dg (n % 10)]
theorem digF_len : ∀ (f n : Nat), (digF f n).length ≤ f
  | 0, _ => Nat.le_refl 0
  | f + 1, n => by
    unfold digF
    have := digF_len f (n / 10)
    split
    · simp
    · simp; omega
def tenS : ByteArray := ⟨#[48, 49, 50, 51, 52, 53, 54, 55, 56, 57]⟩
theorem ten_at : ∀ k, k < 10 → ((tenS.extract k tenS.size).extract 0 ((1 : Int)).toNat) = strOf [dg k] := by decide
theorem ten_size : ∀ k, k < 10 → (1 : Int) ≤ (tenS.extract k tenS.size).size := by decide
theorem strOf_append (a b : List UInt8) : strOf a ++ strOf b = strOf (a ++ b) := by
  apply ByteArray.ext
  rw [ByteArray.data_append]
  simp [strOf]

set_option maxRecDepth 100000 in
set_option maxHeartbeats 1000000 in
theorem digits_step {w0 w : World} {I : Imm} {L : Own} (hst : St w0 w I L) (f : Nat) (ih : ∀ g, f = g + 1 → ∀ (m : Nat) {w0 w : World} {I : Imm} {L : Own}, St w0 w I L → m < 10 ^ g → m ≤ 9223372036854775807 → Calls Tryd.prog 36 #[.int .i64 (m : Int)] w fun e w' => e = .returned (.string (strOf (digF (g + 1) m))) ∧ St w0 w' I L) (m : Nat) (hm : m < 10 ^ f) (hm2 : m ≤ 9223372036854775807) (hf : f ≤ 100) :
    Calls Tryd.prog 36 #[.int .i64 (m : Int)] w fun e w' => e = .returned (.string (strOf (digF (f + 1) m))) ∧ St w0 w' I L := by
  refine enter Tryd.func36 rfl (N := 17) rfl rfl ?_
  simp only [List.zipIdx_cons, List.zipIdx_nil, List.map_cons, List.map_nil, Nat.zero_add, Nat.reduceAdd]
  have hle := Imm.le.refl I
  refine CW.seq ?_
  -- region 0
  refine CW.region ?_
  refine RW.op1 rfl (runs_assign rfl) ?_
  refine RW.done ?_
  refine AQ.next ?_
  refine CW.seq ?_
  refine CW.seq ?_
  -- region 1
  refine CW.region ?_
  refine RW.op1 rfl (runs_move rfl) ?_
  refine RW.op1 rfl (runs_lss rfl rfl) ?_
  refine RW.done ?_
  refine AQ.next ?_
  refine CW.cond rfl (fun hc4 => ?_) (fun hc4 => ?_)
  · have hcb4 := hc4
    try simp only [decide_eq_true_eq, decide_eq_false_iff_not] at hc4
    have hk : m < 10 := by omega
    have ha := ten_at m hk
    have hsz := ten_size m hk
    refine CW.seq ?_
    -- region 2
    refine CW.region ?_
    refine RW.op1 rfl (runs_move rfl) ?_
    refine RW.op1 rfl (runs_max rfl rfl) ?_
    rw [show (if (0 : Int) > (m : Int) then 0 else (m : Int)) = ((m : Nat) : Int) by split <;> omega]
    refine RW.op1 rfl (runs_sliceS_l (s := tenS) Tryd.underlying9 rfl rfl (by show 0 ≤ (m : Int) ∧ (m : Int) ≤ 10; omega)) ?_
    refine RW.op1 rfl (runs_sliceS_h (s := tenS.extract m tenS.size) (hi := 1) Tryd.underlying9 rfl rfl (by omega)) ?_
    rw [ha]
    refine RW.op1 rfl (runs_assign rfl) ?_
    refine RW.done ?_
    refine AQ.next ?_
    refine CW.ret ?_
    refine AQ.past_ret ?_
    refine AQ.ret1 rfl rfl ?_
    refine ⟨?_, hst⟩
    unfold digF
    rw [if_pos hk]
  · have hcb4 := hc4
    try simp only [decide_eq_true_eq, decide_eq_false_iff_not] at hc4
    obtain ⟨g, rfl⟩ : ∃ g, f = g + 1 := by
      cases f with
      | zero => simp at hm; omega
      | succ g => exact ⟨g, rfl⟩
    have hk : m % 10 < 10 := Nat.mod_lt _ (by decide)
    have ha := ten_at (m % 10) hk
    have hsz := ten_size (m % 10) hk
    have hlt : m / 10 < 10 ^ g := by rw [Nat.pow_succ] at hm; omega
    have hdl := digF_len (g + 1) (m / 10)
    generalize hkk : m % 10 = k at hk ha hsz
    have hqb : m / 10 ≤ 9223372036854775807 := by omega
    generalize hqq : m / 10 = q at hlt hdl hqb
    refine CW.skip ?_
    refine AQ.next ?_
    refine CW.seq ?_
    -- region 3
    refine CW.drawSt hst (.q 0 (.q 1 (.q 3 (.q 4 (.q 5 (.q 6 (.l 2 (.q 7 (.q 8 .nil))))))))) follows (by kernel_rfl) (fun w hst => ?_)
    refine DRW.q rfl rfl (fun w' hF => runs_move rfl) ?_
    refine DRW.q rfl rfl (fun w' hF => runs_quo rfl rfl (by omega)) ?_
    rw [show (m : Int).tdiv 10 = ((m / 10 : Nat) : Int) from rfl, hqq, wrap_i64 (n := (q : Int)) (by omega)]
    refine DRW.q rfl rfl (fun w' hF => runs_move rfl) ?_
    refine DRW.q rfl rfl (fun w' hF => runs_rem rfl rfl (by omega)) ?_
    rw [show (m : Int).tmod 10 = ((m % 10 : Nat) : Int) from rfl, hkk]
    refine DRW.q rfl rfl (fun w' hF => runs_sliceS_l (s := tenS) Tryd.underlying9 rfl rfl (by show 0 ≤ (k : Int) ∧ (k : Int) ≤ 10; omega)) ?_
    refine DRW.q rfl rfl (fun w' hF => runs_sliceS_h (s := tenS.extract k tenS.size) (hi := 1) Tryd.underlying9 rfl rfl (by omega)) ?_
    rw [ha]
    refine DRW.call rfl rfl call36 rfl rfl (ih g rfl q hst hlt hqb) ?_
    rintro e w ⟨rfl, hstn⟩
    clear hst
    have hst := hstn
    clear hstn
    refine ⟨_, rfl, FSt.of hst (Imm.le.refl _) (by first | exact (List.sublist_cons_self _ _).trans (List.sublist_append_right _ _) | exact List.Sublist.refl _ | exact List.sublist_cons_self _ _ | exact List.sublist_append_right _ _ | exact (List.sublist_cons_self _ _).trans (List.sublist_cons_self _ _) | exact (List.sublist_append_right _ _).trans (List.sublist_cons_self _ _) | simp), ?_⟩
    refine DRW.q rfl rfl (fun w' hF => runs_addS rfl rfl (by rw [strOfZ, strOfZ]; simp only [List.length_cons, List.length_nil]; omega)) ?_
    refine DRW.q rfl rfl (fun w' hF => runs_assign rfl) ?_
    refine DRW.done ?_
    refine AQ.next ?_
    refine CW.ret ?_
    refine AQ.ret1 rfl rfl ?_
    refine ⟨?_, hst⟩
    rw [strOf_append]
    conv => rhs; unfold digF
    rw [if_neg (by omega), hkk, hqq]
theorem dig_room : ∀ (f : Nat), f ≤ 100 → ∀ (m : Nat) {w0 w : World} {I : Imm} {L : Own}, St w0 w I L → m < 10 ^ f → m ≤ 9223372036854775807 → Calls Tryd.prog 36 #[.int .i64 (m : Int)] w fun e w' => e = .returned (.string (strOf (digF (f + 1) m))) ∧ St w0 w' I L := by
  intro f
  induction f with
  | zero => intro hf m w0 w I L hst hm hm2; exact digits_step hst 0 (fun g hg => by omega) m hm hm2 hf
  | succ g ih =>
    intro hf m w0 w I L hst hm hm2
    refine digits_step hst (g + 1) (fun g' hg m' w0 w I L hst hm' hb => ?_) m hm hm2 hf
    obtain rfl : g = g' := by omega
    exact ih (by omega) m' hst hm' hb
theorem digF_dec : ∀ (f n : Nat), n < 10 ^ f → digF (f + 1) n = Lib.decDigits n
  | 0, n, h => by
    unfold digF Lib.decDigits
    rw [if_pos (by simp at h; omega), dif_pos (by simp at h; omega)]
    unfold dg u8
    rw [show ((48 + (n : Int)) % 256).toNat = 48 + n by simp at h; omega]
  | f + 1, n, h => by
    unfold digF Lib.decDigits
    by_cases hn : n < 10
    · rw [if_pos hn, dif_pos hn]
      unfold dg u8
      rw [show ((48 + (n : Int)) % 256).toNat = 48 + n by omega]
    · rw [if_neg hn, dif_neg hn, digF_dec f (n / 10) (by rw [Nat.pow_succ] at h; omega)]
      unfold dg u8
      rw [show ((48 + ((n % 10 : Nat) : Int)) % 256).toNat = 48 + n % 10 by omega]
theorem digits_spec {w0 w : World} {I : Imm} {L : Own} (hst : St w0 w I L) (n : Int) (h0 : 0 ≤ n) (h1 : n ≤ 9223372036854775807) :
    Calls Tryd.prog 36 #[.int .i64 n] w fun e w' => e = .returned (.string (strOf (Lib.decDigits n.toNat))) ∧ St w0 w' I L := by
  obtain ⟨m, rfl⟩ : ∃ m : Nat, n = (m : Int) := ⟨n.toNat, by omega⟩
  refine (dig_room 19 (by omega) m hst (by omega) (by omega)).mono fun e w' ⟨h1, h2⟩ => ⟨?_, h2⟩
  rw [h1, digF_dec 19 m (by omega)]
  rfl
/-- The part of a text ahead of the first of some bytes, and the rest. -/
def stopK (st l : List UInt8) : Nat := l.findIdx (fun c => st.contains c)
def untilL (st l : List UInt8) : List UInt8 × List UInt8 := (l.take (stopK st l), l.drop (stopK st l))
theorem untilL_no {st l : List UInt8} (h : ∀ x ∈ l, st.contains x = false) : untilL st l = (l, []) := by
  have hk : stopK st l = l.length := by
    unfold stopK
    rw [List.findIdx_eq_length]
    intro x hx
    rw [h x hx]
  unfold untilL
  rw [hk, List.take_length, List.drop_length]
theorem stopK_at {st a b : List UInt8} {c : UInt8} (h : ∀ x ∈ a, st.contains x = false) (hc : st.contains c = true) : stopK st (a ++ c :: b) = a.length := by
  unfold stopK
  induction a with
  | nil =>
    rw [List.nil_append, List.findIdx_cons, hc]
    rfl
  | cons x r ih =>
    rw [List.cons_append, List.findIdx_cons, h x (by simp), cond_false, ih (fun y hy => h y (List.mem_cons_of_mem _ hy))]
    rfl
theorem untilL_at {st a b : List UInt8} {c : UInt8} (h : ∀ x ∈ a, st.contains x = false) (hc : st.contains c = true) : untilL st (a ++ c :: b) = (a, c :: b) := by
  unfold untilL
  rw [stopK_at h hc, List.take_left, List.drop_left]
theorem untilL_len (st l : List UInt8) : (untilL st l).1.length ≤ l.length ∧ (untilL st l).2.length ≤ l.length := by
  unfold untilL
  exact ⟨by rw [List.length_take]; omega, by rw [List.length_drop]; omega⟩
theorem untilL_get {st l : List UInt8} {k : Nat} (hk : k < l.length) (h : ∀ x ∈ l.take k, st.contains x = false) (hc : st.contains l[k] = true) : untilL st l = (l.take k, l.drop k) := by
  have e : l = l.take k ++ l[k] :: l.drop (k + 1) := by rw [← List.drop_eq_getElem_cons hk, List.take_append_drop]
  have h2 := untilL_at (b := l.drop (k + 1)) h hc
  rw [← e] at h2
  rw [h2, ← List.drop_eq_getElem_cons hk]
set_option maxRecDepth 100000 in
set_option maxHeartbeats 1000000 in
theorem until_spec {w0 w : World} {I : Imm} {L : Own} (hst : St w0 w I L) (s p : ByteArray) (hs : s.size ≤ 9223372036854775807) (hp : p.size ≤ 1000000) :
    Calls Tryd.prog 29 #[.string s, .string p] w fun e w' => e = .returned (.tuple #[.string (strOf (untilL p.toList s.toList).1), .string (strOf (untilL p.toList s.toList).2)]) ∧ St w0 w' I L := by
  have hsz := size_toList s
  have hpz := size_toList p
  refine enter Tryd.func29 rfl (N := 34) rfl rfl ?_
  simp only [List.zipIdx_cons, List.zipIdx_nil, List.map_cons, List.map_nil, Nat.zero_add, Nat.reduceAdd]
  have hle := Imm.le.refl I
  refine CW.seq ?_
  -- region 0
  refine CW.region ?_
  refine RW.op1 rfl (runs_assign rfl) ?_
  refine RW.op1 rfl (runs_assign rfl) ?_
  refine RW.done ?_
  refine AQ.next ?_
  refine CW.seq ?_
  refine CW.seq ?_
  -- region 1
  refine CW.region ?_
  refine RW.op1 rfl (runs_assign rfl) ?_
  refine RW.done ?_
  refine AQ.next ?_
  refine CW.block ?_
  -- loop 1
  refine CW.loop Nat (fun k w => St w0 w I L ∧ k ≤ s.toList.length ∧ ∀ x ∈ s.toList.take k, p.toList.contains x = false) (fun k => [(0, .string s), (1, .string p), (6, .int .i64 (k : Int))]) (fun k => s.toList.length - k) ⟨0, ⟨hst, Nat.zero_le _, by simp⟩, ⟨rfl, rfl, rfl, trivial⟩⟩ ?_
  rintro k w ⟨hstn, hk, hall⟩
  clear hst
  have hst := hstn
  clear hstn
  refine CW.seq ?_
  refine CW.seq ?_
  -- region 2
  refine CW.region ?_
  refine RW.op1 rfl (runs_move rfl) ?_
  refine RW.op1 rfl (runs_move rfl) ?_
  refine RW.op1 rfl (runs_lenS Tryd.underlying9 rfl) ?_
  refine RW.op1 rfl (runs_lss rfl rfl) ?_
  refine RW.done ?_
  refine AQ.next ?_
  refine CW.cond rfl (fun hc11 => ?_) (fun hc11 => ?_)
  · have hcb11 := hc11
    try simp only [decide_eq_true_eq, decide_eq_false_iff_not] at hc11
    have hk1 : k < s.toList.length := by omega
    have hgd := get_getD hk1
    obtain ⟨c, hc⟩ : ∃ c, s.toList[k] = c := ⟨_, rfl⟩
    rw [hc] at hgd
    refine CW.skip ?_
    refine AQ.next ?_
    refine CW.seq ?_
    refine CW.block ?_
    refine CW.seq ?_
    -- region 4
    refine CW.region ?_
    refine RW.op1 rfl (runs_assign rfl) ?_
    refine RW.done ?_
    refine AQ.next ?_
    refine CW.block ?_
    -- loop 2
    refine CW.loop Nat (fun j w => St w0 w I L ∧ j ≤ p.toList.length ∧ (p.toList.take j).contains c = false) (fun j => [(0, .string s), (1, .string p), (6, .int .i64 (k : Int)), (7, .int .i64 (j : Int))]) (fun j => p.toList.length - j) ⟨0, ⟨hst, Nat.zero_le _, by simp⟩, ⟨rfl, rfl, rfl, rfl, trivial⟩⟩ ?_
    rintro j w ⟨hstn, hj, hno⟩
    clear hst
    have hst := hstn
    clear hstn
    refine CW.seq ?_
    refine CW.seq ?_
    -- region 5
    refine CW.region ?_
    refine RW.op1 rfl (runs_move rfl) ?_
    refine RW.op1 rfl (runs_move rfl) ?_
    refine RW.op1 rfl (runs_lenS Tryd.underlying9 rfl) ?_
    refine RW.op1 rfl (runs_lss rfl rfl) ?_
    refine RW.done ?_
    refine AQ.next ?_
    refine CW.cond rfl (fun hc17 => ?_) (fun hc17 => ?_)
    · have hcb17 := hc17
      try simp only [decide_eq_true_eq, decide_eq_false_iff_not] at hc17
      have hj1 : j < p.toList.length := by omega
      have hgj := get_getD hj1
      obtain ⟨d, hd⟩ : ∃ d, p.toList[j] = d := ⟨_, rfl⟩
      rw [hd] at hgj
      refine CW.skip ?_
      refine AQ.next ?_
      refine CW.seq ?_
      refine CW.block ?_
      refine CW.seq ?_
      -- region 7
      refine CW.drawSt hst (.q 0 (.q 1 (.q 2 (.q 3 (.q 4 (.q 5 (.q 6 .nil))))))) follows (by kernel_rfl) (fun w hst => ?_)
      refine DRW.q rfl rfl (fun w' hF => runs_move rfl) ?_
      refine DRW.q rfl rfl (fun w' hF => runs_move rfl) ?_
      refine DRW.q rfl rfl (fun w' hF => runs_indexL Tryd.underlying9 rfl rfl (by omega) (by omega)) ?_
      rw [show ((k : Int)).toNat = k from rfl, hgd]
      refine DRW.q rfl rfl (fun w' hF => runs_move rfl) ?_
      refine DRW.q rfl rfl (fun w' hF => runs_move rfl) ?_
      refine DRW.q rfl rfl (fun w' hF => runs_indexL Tryd.underlying9 rfl rfl (by omega) (by omega)) ?_
      rw [show ((j : Int)).toNat = j from rfl, hgj]
      refine DRW.q rfl rfl (fun w' hF => runs_eqI rfl rfl) ?_
      refine DRW.done ?_
      refine AQ.next ?_
      refine CW.cond rfl (fun hc26 => ?_) (fun hc26 => ?_)
      · have hcb26 := hc26
        try simp only [decide_eq_true_eq, decide_eq_false_iff_not] at hc26
        have hcd : c = d := by
          apply UInt8.toNat.inj
          omega
        have hin : p.toList.contains c = true := by
          rw [List.contains_iff_mem, hcd, ← hd]
          exact List.getElem_mem hj1
        have hun := untilL_get hk1 hall (by rw [hc]; exact hin)
        refine CW.seq ?_
        -- region 8
        refine CW.drawSt hst (.q 0 (.q 1 (.q 2 (.q 3 (.q 4 (.q 5 (.q 6 (.q 7 .nil)))))))) follows (by kernel_rfl) (fun w hst => ?_)
        refine DRW.q rfl rfl (fun w' hF => runs_move rfl) ?_
        refine DRW.q rfl rfl (fun w' hF => runs_move rfl) ?_
        refine DRW.q rfl rfl (fun w' hF => runs_sliceS_h Tryd.underlying9 rfl rfl (by omega)) ?_
        refine DRW.q rfl rfl (fun w' hF => runs_move rfl) ?_
        refine DRW.q rfl rfl (fun w' hF => runs_move rfl) ?_
        refine DRW.q rfl rfl (fun w' hF => runs_sliceS_l Tryd.underlying9 rfl rfl (by omega)) ?_
        refine DRW.q rfl rfl (fun w' hF => runs_assign rfl) ?_
        refine DRW.q rfl rfl (fun w' hF => runs_assign rfl) ?_
        refine DRW.done ?_
        refine AQ.next ?_
        refine CW.ret ?_
        refine AQ.block_ret ?_
        refine AQ.past_ret ?_
        refine AQ.past_ret ?_
        refine AQ.block_ret ?_
        refine AQ.block_ret ?_
        refine AQ.past_ret ?_
        refine AQ.past_ret ?_
        refine AQ.block_ret ?_
        refine AQ.past_ret ?_
        refine AQ.ret2 rfl rfl rfl ?_
        refine ⟨?_, hst⟩
        rw [hun, extractE, extractE, show ((k : Int)).toNat = k from rfl, List.drop_zero, Nat.sub_zero, List.take_of_length_le (l := List.drop k s.toList) (by rw [List.length_drop]; omega)]
      · have hcb26 := hc26
        try simp only [decide_eq_true_eq, decide_eq_false_iff_not] at hc26
        have hcd : c ≠ d := fun e => hc26 (by rw [e])
        refine CW.skip ?_
        refine AQ.block_normal ?_
        refine AQ.next ?_
        -- region 6
        refine CW.region ?_
        refine RW.op1 rfl (runs_move rfl) ?_
        refine RW.op1 rfl (runs_add rfl rfl (by omega)) ?_
        refine RW.op1 rfl (runs_assign rfl) ?_
        refine RW.done ?_
        exact AQ.again (x := j) (j + 1) ⟨hst, by omega, by
          rw [List.take_add_one, List.getElem?_eq_getElem hj1, hd]
          rw [List.contains_eq_mem] at hno ⊢
          simp only [Option.toList_some, List.mem_append, List.mem_singleton, decide_eq_false_iff_not] at hno ⊢
          rintro (h | h)
          · exact hno h
          · exact hcd h⟩ ⟨rfl, rfl, rfl, rfl, trivial⟩ (by omega)
    · have hcb17 := hc17
      try simp only [decide_eq_true_eq, decide_eq_false_iff_not] at hc17
      skip
      refine CW.exit ?_
      refine AQ.past_exit ?_
      refine AQ.past_exit ?_
      refine AQ.block_hit ?_
      refine AQ.block_normal ?_
      refine AQ.next ?_
      -- region 3
      refine CW.region ?_
      refine RW.op1 rfl (runs_move rfl) ?_
      refine RW.op1 rfl (runs_add rfl rfl (by omega)) ?_
      refine RW.op1 rfl (runs_assign rfl) ?_
      refine RW.done ?_
      exact AQ.again (x := k) (k + 1) ⟨hst, by omega, takeE_more hall hk1 (by rw [hc]; rw [List.take_of_length_le (by omega)] at hno; exact hno)⟩ ⟨rfl, rfl, rfl, trivial⟩ (by omega)
  · have hcb11 := hc11
    try simp only [decide_eq_true_eq, decide_eq_false_iff_not] at hc11
    skip
    refine CW.exit ?_
    refine AQ.past_exit ?_
    refine AQ.past_exit ?_
    refine AQ.block_hit ?_
    refine AQ.next ?_
    refine CW.seq ?_
    -- region 9
    refine CW.region ?_
    refine RW.op1 rfl (runs_move rfl) ?_
    refine RW.op1 rfl (runs_assign rfl) ?_
    refine RW.op1 rfl (runs_assign rfl) ?_
    refine RW.done ?_
    refine AQ.next ?_
    refine CW.ret ?_
    refine AQ.ret2 rfl rfl rfl ?_
    rw [List.take_of_length_le (by omega)] at hall
    rw [untilL_no hall, strOfE]
    exact ⟨rfl, hst⟩
set_option maxRecDepth 100000 in
set_option maxHeartbeats 1000000 in
theorem begins_spec {w0 w : World} {I : Imm} {L : Own} (hst : St w0 w I L) (s p : ByteArray) :
    Calls Tryd.prog 28 #[.string s, .string p] w fun e w' => e = .returned (.bool (preS s p)) ∧ St w0 w' I L := by
  refine enter Tryd.func28 rfl (N := 18) rfl rfl ?_
  simp only [List.zipIdx_cons, List.zipIdx_nil, List.map_cons, List.map_nil, Nat.zero_add, Nat.reduceAdd]
  have hle := Imm.le.refl I
  refine CW.seq ?_
  -- region 0
  refine CW.region ?_
  refine RW.op1 rfl (runs_assign rfl) ?_
  refine RW.done ?_
  refine AQ.next ?_
  refine CW.seq ?_
  -- region 1
  refine CW.region ?_
  refine RW.op1 rfl (runs_move rfl) ?_
  refine RW.op1 rfl (runs_lenS Tryd.underlying9 rfl) ?_
  refine RW.op1 rfl (runs_move rfl) ?_
  refine RW.op1 rfl (runs_lenS Tryd.underlying9 rfl) ?_
  refine RW.op1 rfl (runs_geq rfl rfl) ?_
  refine RW.op1 rfl (runs_move rfl) ?_
  refine RW.split (t := 10) rfl (fun hb10 => ?_) (fun hb10 => ?_)
  · have hb10p := hb10
    try simp only [decide_eq_true_eq, decide_eq_false_iff_not] at hb10p
    refine RW.on_guard rfl rfl rfl rfl hb10 ?_
    refine RW.op1 rfl (runs_move rfl) ?_
    refine RW.on_guard rfl rfl rfl rfl hb10 ?_
    refine RW.op1 rfl (runs_move rfl) ?_
    refine RW.on_guard rfl rfl rfl rfl hb10 ?_
    refine RW.op1 rfl (runs_lenS Tryd.underlying9 rfl) ?_
    refine RW.on_guard rfl rfl rfl rfl hb10 ?_
    refine RW.op1 rfl (runs_sliceS_h Tryd.underlying9 rfl rfl (by omega)) ?_
    refine RW.on_guard rfl rfl rfl rfl hb10 ?_
    refine RW.op1 rfl (runs_move rfl) ?_
    refine RW.on_guard rfl rfl rfl rfl hb10 ?_
    refine RW.op1 rfl (runs_eqS rfl rfl) ?_
    refine RW.op1 rfl (runs_pick_true rfl hb10 rfl) ?_
    refine RW.op1 rfl (runs_assign rfl) ?_
    refine RW.done ?_
    refine AQ.next ?_
    refine CW.ret ?_
    refine AQ.ret1 rfl rfl ?_
    refine ⟨?_, hst⟩
    unfold preS
    simp only [hb10p, decide_true, Bool.true_and, Int.toNat_natCast]
  · have hb10p := hb10
    try simp only [decide_eq_true_eq, decide_eq_false_iff_not] at hb10p
    refine RW.off_guard rfl rfl rfl rfl hb10 ?_
    refine RW.off_guard rfl rfl rfl rfl hb10 ?_
    refine RW.off_guard rfl rfl rfl rfl hb10 ?_
    refine RW.off_guard rfl rfl rfl rfl hb10 ?_
    refine RW.off_guard rfl rfl rfl rfl hb10 ?_
    refine RW.off_guard rfl rfl rfl rfl hb10 ?_
    refine RW.op1 rfl (runs_pick_false rfl hb10 rfl) ?_
    refine RW.op1 rfl (runs_assign rfl) ?_
    refine RW.done ?_
    refine AQ.next ?_
    refine CW.ret ?_
    refine AQ.ret1 rfl rfl ?_
    refine ⟨?_, hst⟩
    unfold preS
    simp only [hb10p, decide_false, Bool.false_and]
end Go.Proofs.YtfjghkmapccjhaaDoorX
