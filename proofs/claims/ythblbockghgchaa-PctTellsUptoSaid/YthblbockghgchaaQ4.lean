/- The document's encoding, small letters: what these come to. -/
import Derived.Test.YthblbockghgchaaT
import Derived.Test.YthblbockghgchaaQ3
namespace Go.Proofs.YthblbockghgchaaX
set_option linter.unusedVariables false
set_option linter.unusedSimpArgs false
open Go Go.RowKit Go.Proofs

set_option maxRecDepth 100000 in
set_option maxHeartbeats 1000000 in
theorem refLower_spec {w0 w : World} {I : Imm} {L : Own} (hst : St w0 w I L) (s : ByteArray) (hs : s.size ≤ 9223372036854775807) :
    Calls Try.prog 16 #[.string s] w fun e w' => ∃ I' , Imm.le I I' ∧ e = .returned (.string (strOf (lower s.toList))) ∧ St w0 w' I' L := by
  have hsl := size_toList s
  refine enter Try.func16 rfl (N := 29) rfl rfl ?_
  simp only [List.zipIdx_cons, List.zipIdx_nil, List.map_cons, List.map_nil, Nat.zero_add, Nat.reduceAdd]
  have hle := Imm.le.refl I
  refine CW.seq ?_
  -- region 0
  refine CW.region ?_
  refine RW.op1 rfl (runs_assign rfl) ?_
  refine RW.done ?_
  refine AQ.next ?_
  refine CW.seq ?_
  -- region 1
  refine CW.region ?_
  refine RW.op1 rfl (runs_move rfl) ?_
  refine RW.opE rfl (runs_bytesOf Try.underlying9 Try.underlying25 Try.underlying5 rfl hst) ?_
  rintro _ w ⟨b7, cap7, pad7, rfl, hcap7, hstn⟩
  clear hst
  have hst := hstn
  clear hstn
  refine RW.op1 rfl (runs_assign rfl) ?_
  refine RW.done ?_
  refine AQ.next ?_
  refine CW.seq ?_
  refine CW.seq ?_
  -- region 2
  refine CW.region ?_
  refine RW.op1 rfl (runs_move rfl) ?_
  first
    | refine RW.op1 rfl (RdL.len Try.underlying25 rfl (by assumption)) ?_
    | refine RW.op1 rfl (runs_lenL Try.underlying25 rfl) ?_
    | refine RW.op1 rfl (Grow.len Try.underlying25 rfl (by assumption)) ?_
  refine RW.op1 rfl (runs_move rfl) ?_
  refine RW.done ?_
  refine AQ.next ?_
  refine CW.block ?_
  -- loop 1
  refine CW.loop Nat (fun k w => St w0 w I ((b7, rowB (lowTo s.toList k) pad7 5) :: L) ∧ k ≤ s.toList.length) (fun k => [(3, .slice (some ⟨b7, 0, none⟩) s.toList.length cap7), (8, .slice (some ⟨b7, 0, none⟩) s.toList.length cap7), (9, .int .i64 (s.toList.length : Int)), (10, .int .i64 (k : Int))]) (fun k => s.toList.length - k) ⟨0, ⟨by rw [lowTo_zero]; exact hst, Nat.zero_le _⟩, ⟨rfl, rfl, rfl, rfl, trivial⟩⟩ ?_
  rintro k w ⟨hstn, hk⟩
  clear hst
  have hst := hstn
  clear hstn
  refine CW.seq ?_
  -- region 3
  refine CW.region ?_
  refine RW.op1 rfl (runs_lss rfl rfl) ?_
  refine RW.done ?_
  refine AQ.next ?_
  refine CW.seq ?_
  refine CW.cond rfl (fun hc11 => ?_) (fun hc11 => ?_)
  · have hcb11 := hc11
    try simp only [decide_eq_true_eq, decide_eq_false_iff_not] at hc11
    have hk1 : k < s.toList.length := by omega
    have hget := rowB_get (bs := lowTo s.toList k) (pad := pad7) (k := k) (by rw [lowTo_length]; exact hk1)
    rw [lowTo_get hk1] at hget
    obtain ⟨c, hc⟩ : ∃ c, s.toList[k] = c := ⟨_, rfl⟩
    rw [hc] at hget
    have hcl := c.toNat_lt
    refine CW.skip ?_
    refine AQ.next ?_
    refine CW.seq ?_
    refine CW.block ?_
    refine CW.seq ?_
    -- region 4
    refine CW.region ?_
    refine RW.op1 rfl (runs_move rfl) ?_
    refine RW.op1 rfl (runs_indexAddr0 Try.underlying25 ti5 rfl rfl (by omega)) ?_
    refine RW.op1 rfl (runs_load1 sc5 rfl (hst.cell_own (k := 0) rfl (by rw [Nat.zero_add, Int.toNat_natCast, Nat.mul_one]; exact hget))) ?_
    refine RW.op1 rfl (runs_assign rfl) ?_
    refine RW.op1 rfl (runs_assign rfl) ?_
    refine RW.done ?_
    refine AQ.next ?_
    refine CW.seq ?_
    -- region 5
    refine CW.region ?_
    refine RW.op1 rfl (runs_move rfl) ?_
    refine RW.op1 rfl (runs_geq rfl rfl) ?_
    refine RW.op1 rfl (runs_move rfl) ?_
    refine RW.split (t := 17) rfl (fun hb17 => ?_) (fun hb17 => ?_)
    · have hb17p := hb17
      try simp only [decide_eq_true_eq, decide_eq_false_iff_not] at hb17p
      refine RW.on_guard rfl rfl rfl rfl hb17 ?_
      refine RW.op1 rfl (runs_move rfl) ?_
      refine RW.on_guard rfl rfl rfl rfl hb17 ?_
      refine RW.op1 rfl (runs_leq rfl rfl) ?_
      refine RW.op1 rfl (runs_pick_true rfl hb17 rfl) ?_
      refine RW.done ?_
      refine AQ.next ?_
      refine CW.cond rfl (fun hc20 => ?_) (fun hc20 => ?_)
      · have hcb20 := hc20
        try simp only [decide_eq_true_eq, decide_eq_false_iff_not] at hc20
        -- region 6
        refine CW.region ?_
        refine RW.op1 rfl (runs_move rfl) ?_
        refine RW.op1 rfl (runs_move rfl) ?_
        refine RW.op1 rfl (runs_move rfl) ?_
        refine RW.op1 rfl (runs_addW rfl rfl) ?_
        refine RW.op1 rfl (runs_indexAddr0 Try.underlying25 ti5 rfl rfl (by omega)) ?_
        refine RW.opE0 (runs_store1' ti5 rfl rfl hst (k := 0) rfl (by simp [lowTo_length]; omega) (NoFz.behind _) rfl) ?_
        rintro w hstn
        clear hst
        have hst := hstn
        clear hstn
        try simp only [List.set_cons_zero, List.set_cons_succ] at hst
        refine RW.done ?_
        refine AQ.block_normal ?_
        refine AQ.next ?_
        -- region 7
        refine CW.region ?_
        refine RW.op1 rfl (runs_add rfl rfl (by omega)) ?_
        refine RW.op1 rfl (runs_move rfl) ?_
        refine RW.done ?_
        have hlc : lowB c = u8 ((c.toNat : Int) + 32) := by unfold lowB; rw [if_pos (by omega)]
        have hv : Value.int .u8 (IntKind.u8.wrap ((c.toNat : Int) + 32)) = b8 (lowB c) := by
          rw [hlc]; unfold b8; rw [u8_toNat, IntKind.wrap_u8]
        have hset := rowB_set (bs := lowTo s.toList k) (pad := pad7) (lowB c) (k := k) (by rw [lowTo_length]; exact hk1)
        rw [lowTo_set hk1 (lowB c) (by rw [hc])] at hset
        simp only [Nat.zero_add, Int.toNat_natCast, Nat.mul_one] at hst
        rw [hv, hset, show ((lowTo s.toList k).map b8 ++ pad7).length = ((lowTo s.toList (k + 1)).map b8 ++ pad7).length by simp [lowTo_length]] at hst
        exact AQ.again (k + 1) ⟨hst, by omega⟩ ⟨rfl, rfl, rfl, rfl, trivial⟩ (by omega)
      · have hcb20 := hc20
        try simp only [decide_eq_true_eq, decide_eq_false_iff_not] at hc20
        refine CW.skip ?_
        refine AQ.block_normal ?_
        refine AQ.next ?_
        -- region 7
        refine CW.region ?_
        refine RW.op1 rfl (runs_add rfl rfl (by omega)) ?_
        refine RW.op1 rfl (runs_move rfl) ?_
        refine RW.done ?_
        have hlc : lowB s.toList[k] = s.toList[k] := by rw [hc]; unfold lowB; rw [if_neg (by omega)]
        exact AQ.again (k + 1) ⟨by rw [← lowTo_same hk1 hlc]; exact hst, by omega⟩ ⟨rfl, rfl, rfl, rfl, trivial⟩ (by omega)
    · have hb17p := hb17
      try simp only [decide_eq_true_eq, decide_eq_false_iff_not] at hb17p
      refine RW.off_guard rfl rfl rfl rfl hb17 ?_
      refine RW.off_guard rfl rfl rfl rfl hb17 ?_
      refine RW.op1 rfl (runs_pick_false rfl hb17 rfl) ?_
      refine RW.done ?_
      refine AQ.next ?_
      refine CW.cond_false rfl ?_
      refine CW.skip ?_
      refine AQ.block_normal ?_
      refine AQ.next ?_
      -- region 7
      refine CW.region ?_
      refine RW.op1 rfl (runs_add rfl rfl (by omega)) ?_
      refine RW.op1 rfl (runs_move rfl) ?_
      refine RW.done ?_
      have hlc : lowB s.toList[k] = s.toList[k] := by rw [hc]; unfold lowB; rw [if_neg (by omega)]
      exact AQ.again (k + 1) ⟨by rw [← lowTo_same hk1 hlc]; exact hst, by omega⟩ ⟨rfl, rfl, rfl, rfl, trivial⟩ (by omega)
  · have hcb11 := hc11
    try simp only [decide_eq_true_eq, decide_eq_false_iff_not] at hc11
    skip
    refine CW.exit ?_
    refine AQ.past_exit ?_
    refine AQ.past_exit ?_
    refine AQ.block_hit ?_
    refine AQ.next ?_
    refine CW.seq ?_
    -- region 8
    refine CW.region ?_
    have hke : k = s.toList.length := by omega
    subst hke
    rw [lowTo_end] at hst
    obtain ⟨I8, hI8, hstn, hr⟩ := rowB_freeze (cap := cap7) hst (by simp [lower]; omega)
    clear hst
    have hst := hstn
    clear hstn
    rw [show s.toList.length = (lower s.toList).length by simp [lower]]
    refine RW.op1 rfl (runs_move rfl) ?_
    refine RW.op1 rfl (RdB.string Try.underlying25 Try.underlying5 Try.underlying9 rfl hr hst) ?_
    refine RW.op1 rfl (runs_assign rfl) ?_
    refine RW.done ?_
    refine AQ.next ?_
    refine CW.ret ?_
    refine AQ.ret1 rfl rfl ?_
    exact ⟨I8, hI8, rfl, hst⟩
set_option maxRecDepth 100000 in
set_option maxHeartbeats 1000000 in
theorem rpct_spec {w0 w : World} {I : Imm} {L : Own} (hst : St w0 w I L) (s : ByteArray) (hs : s.size ≤ 1000000000) :
    Calls Try.prog 14 #[.string s] w fun e w' => ∃ I', Imm.le I I' ∧ e = .returned (.string (strOf (encB s.toList))) ∧ St w0 w' I' L := by
  have hel := encB_len s.toList
  rw [size_toList] at hel
  refine enter Try.func14 rfl (N := 84) rfl rfl ?_
  simp only [List.zipIdx_cons, List.zipIdx_nil, List.map_cons, List.map_nil, Nat.zero_add, Nat.reduceAdd]
  have hle := Imm.le.refl I
  refine CW.seq ?_
  -- region 0
  refine CW.region ?_
  refine RW.op1 rfl (runs_assign rfl) ?_
  refine RW.done ?_
  refine AQ.next ?_
  refine CW.seq ?_
  -- region 1
  refine CW.region ?_
  refine RW.op1 rfl (runs_assign rfl) ?_
  refine RW.done ?_
  refine AQ.next ?_
  refine CW.seq ?_
  refine CW.seq ?_
  -- region 2
  refine CW.region ?_
  refine RW.op1 rfl (runs_move rfl) ?_
  refine RW.opE rfl (runs_rangeS Try.underlying9 rfl hst) ?_
  rintro _ w ⟨b9, rfl, hstn⟩
  clear hst
  have hst := hstn
  clear hstn
  refine RW.done ?_
  refine AQ.next ?_
  refine CW.block ?_
  -- loop 1
  refine CW.loop (Nat × List UInt8) (fun x w => St w0 w I ((b9, .stringIter s x.1) :: L) ∧ encB s.toList = x.2 ++ (runesAt s x.1).flatMap encR) (fun x => [(3, .string (strOf x.2)), (10, .pointer (some ⟨b9, 0, none⟩))]) (fun x => s.size - x.1) ⟨(0, []), ⟨hst, by rw [runesAt_zero]; rfl⟩, ⟨rfl, rfl, trivial⟩⟩ ?_
  rintro ⟨pos, out⟩ w ⟨hstn, hout⟩
  dsimp only at hstn hout ⊢
  clear hst
  have hst := hstn
  clear hstn
  refine CW.seq ?_
  -- region 3
  refine CW.region ?_
  refine RW.opE rfl (runs_nextS rfl hst (k := 0) rfl) ?_
  rintro _ w ⟨rfl, hstn⟩
  clear hst
  have hst := hstn
  clear hstn
  simp only [List.set_cons_zero] at hst
  refine RW.op1 rfl (runs_extract rfl (nextV_0 s pos)) ?_
  refine RW.done ?_
  refine AQ.next ?_
  refine CW.seq ?_
  refine CW.cond rfl (fun hc12 => ?_) (fun hc12 => ?_)
  · have hcb12 := hc12
    try simp only [decide_eq_true_eq, decide_eq_false_iff_not] at hc12
    have hnx := runesAt_next hc12
    have hmore := nextP_more hc12
    have hrl := rune_le s pos
    refine CW.skip ?_
    refine AQ.next ?_
    refine CW.block ?_
    refine CW.seq ?_
    -- region 4
    refine CW.region ?_
    refine RW.op1 rfl (runs_extract rfl (nextV_2 hc12)) ?_
    generalize (Utf8.decode s pos).1 = r at hnx hrl ⊢
    rw [hnx, List.flatMap_cons, ← List.append_assoc] at hout
    have hol := congrArg List.length hout
    rw [List.length_append, List.length_append] at hol
    have hrr := encR_len r
    have hz := strOf_size out
    refine RW.op1 rfl (runs_assign rfl) ?_
    refine RW.done ?_
    refine AQ.next ?_
    refine CW.seq ?_
    -- region 5
    refine CW.cut Unit (fun _ w => St w0 w I ((b9, .stringIter s (nextP s pos)) :: L)) (fun _ => [(3, .string (strOf out)), (5, .int .i32 (r : Int)), (10, .pointer (some ⟨b9, 0, none⟩)), (6, .bool (!safeR r))]) ?_ ?_
    · -- region 5
      refine CW.region ?_
      refine RW.op1 rfl (runs_move rfl) ?_
      refine RW.op1 rfl (runs_lss rfl rfl) ?_
      refine RW.op1 rfl (runs_move rfl) ?_
      refine RW.split (t := 16) rfl (fun hb16 => ?_) (fun hb16 => ?_)
      · have hb16p := hb16
        try simp only [decide_eq_true_eq, decide_eq_false_iff_not] at hb16p
        refine RW.off_guard rfl rfl rfl rfl hb16 ?_
        refine RW.off_guard rfl rfl rfl rfl hb16 ?_
        refine RW.op1 rfl (runs_pick_true rfl hb16 rfl) ?_
        refine RW.op1 rfl (runs_move rfl) ?_
        refine RW.off_guard rfl rfl rfl rfl rfl ?_
        refine RW.off_guard rfl rfl rfl rfl rfl ?_
        refine RW.op1 rfl (runs_pick_true rfl rfl rfl) ?_
        refine RW.op1 rfl (runs_move rfl) ?_
        refine RW.off_guard rfl rfl rfl rfl rfl ?_
        refine RW.off_guard rfl rfl rfl rfl rfl ?_
        refine RW.op1 rfl (runs_pick_true rfl rfl rfl) ?_
        refine RW.op1 rfl (runs_move rfl) ?_
        refine RW.off_guard rfl rfl rfl rfl rfl ?_
        refine RW.off_guard rfl rfl rfl rfl rfl ?_
        refine RW.op1 rfl (runs_pick_true rfl rfl rfl) ?_
        refine RW.op1 rfl (runs_move rfl) ?_
        refine RW.off_guard rfl rfl rfl rfl rfl ?_
        refine RW.off_guard rfl rfl rfl rfl rfl ?_
        refine RW.op1 rfl (runs_pick_true rfl rfl rfl) ?_
        refine RW.op1 rfl (runs_move rfl) ?_
        refine RW.off_guard rfl rfl rfl rfl rfl ?_
        refine RW.off_guard rfl rfl rfl rfl rfl ?_
        refine RW.op1 rfl (runs_pick_true rfl rfl rfl) ?_
        refine RW.op1 rfl (runs_move rfl) ?_
        refine RW.off_guard rfl rfl rfl rfl rfl ?_
        refine RW.off_guard rfl rfl rfl rfl rfl ?_
        refine RW.op1 rfl (runs_pick_true rfl rfl rfl) ?_
        refine RW.op1 rfl (runs_move rfl) ?_
        refine RW.off_guard rfl rfl rfl rfl rfl ?_
        refine RW.off_guard rfl rfl rfl rfl rfl ?_
        refine RW.op1 rfl (runs_pick_true rfl rfl rfl) ?_
        refine RW.op1 rfl (runs_move rfl) ?_
        refine RW.off_guard rfl rfl rfl rfl rfl ?_
        refine RW.off_guard rfl rfl rfl rfl rfl ?_
        refine RW.op1 rfl (runs_pick_true rfl rfl rfl) ?_
        refine RW.op1 rfl (runs_assign rfl) ?_
        refine RW.done ?_
        first
          | exact AQ.meet () hst ⟨rfl, rfl, rfl, congrArg (fun z => some (Value.bool z)) (bad_2 (by omega) (by omega) (by omega) (by omega) (by omega) (by omega) (by omega) (by omega) (by omega)), trivial⟩
          | exact AQ.meet () hst ⟨rfl, rfl, rfl, congrArg (fun z => some (Value.bool z)) (bad_1 (by omega)), trivial⟩
      · have hb16p := hb16
        try simp only [decide_eq_true_eq, decide_eq_false_iff_not] at hb16p
        refine RW.on_guard rfl rfl rfl rfl hb16 ?_
        refine RW.op1 rfl (runs_move rfl) ?_
        refine RW.on_guard rfl rfl rfl rfl hb16 ?_
        refine RW.op1 rfl (runs_gtr rfl rfl) ?_
        refine RW.op1 rfl (runs_pick_false rfl hb16 rfl) ?_
        refine RW.op1 rfl (runs_move rfl) ?_
        refine RW.split (t := 20) rfl (fun hb20 => ?_) (fun hb20 => ?_)
        · have hb20p := hb20
          try simp only [decide_eq_true_eq, decide_eq_false_iff_not] at hb20p
          refine RW.off_guard rfl rfl rfl rfl hb20 ?_
          refine RW.off_guard rfl rfl rfl rfl hb20 ?_
          refine RW.op1 rfl (runs_pick_true rfl hb20 rfl) ?_
          refine RW.op1 rfl (runs_move rfl) ?_
          refine RW.off_guard rfl rfl rfl rfl rfl ?_
          refine RW.off_guard rfl rfl rfl rfl rfl ?_
          refine RW.op1 rfl (runs_pick_true rfl rfl rfl) ?_
          refine RW.op1 rfl (runs_move rfl) ?_
          refine RW.off_guard rfl rfl rfl rfl rfl ?_
          refine RW.off_guard rfl rfl rfl rfl rfl ?_
          refine RW.op1 rfl (runs_pick_true rfl rfl rfl) ?_
          refine RW.op1 rfl (runs_move rfl) ?_
          refine RW.off_guard rfl rfl rfl rfl rfl ?_
          refine RW.off_guard rfl rfl rfl rfl rfl ?_
          refine RW.op1 rfl (runs_pick_true rfl rfl rfl) ?_
          refine RW.op1 rfl (runs_move rfl) ?_
          refine RW.off_guard rfl rfl rfl rfl rfl ?_
          refine RW.off_guard rfl rfl rfl rfl rfl ?_
          refine RW.op1 rfl (runs_pick_true rfl rfl rfl) ?_
          refine RW.op1 rfl (runs_move rfl) ?_
          refine RW.off_guard rfl rfl rfl rfl rfl ?_
          refine RW.off_guard rfl rfl rfl rfl rfl ?_
          refine RW.op1 rfl (runs_pick_true rfl rfl rfl) ?_
          refine RW.op1 rfl (runs_move rfl) ?_
          refine RW.off_guard rfl rfl rfl rfl rfl ?_
          refine RW.off_guard rfl rfl rfl rfl rfl ?_
          refine RW.op1 rfl (runs_pick_true rfl rfl rfl) ?_
          refine RW.op1 rfl (runs_move rfl) ?_
          refine RW.off_guard rfl rfl rfl rfl rfl ?_
          refine RW.off_guard rfl rfl rfl rfl rfl ?_
          refine RW.op1 rfl (runs_pick_true rfl rfl rfl) ?_
          refine RW.op1 rfl (runs_assign rfl) ?_
          refine RW.done ?_
          first
            | exact AQ.meet () hst ⟨rfl, rfl, rfl, congrArg (fun z => some (Value.bool z)) (bad_2 (by omega) (by omega) (by omega) (by omega) (by omega) (by omega) (by omega) (by omega) (by omega)), trivial⟩
            | exact AQ.meet () hst ⟨rfl, rfl, rfl, congrArg (fun z => some (Value.bool z)) (bad_1 (by omega)), trivial⟩
        · have hb20p := hb20
          try simp only [decide_eq_true_eq, decide_eq_false_iff_not] at hb20p
          refine RW.on_guard rfl rfl rfl rfl hb20 ?_
          refine RW.op1 rfl (runs_move rfl) ?_
          refine RW.on_guard rfl rfl rfl rfl hb20 ?_
          refine RW.op1 rfl (runs_eqI rfl rfl) ?_
          refine RW.op1 rfl (runs_pick_false rfl hb20 rfl) ?_
          refine RW.op1 rfl (runs_move rfl) ?_
          refine RW.split (t := 24) rfl (fun hb24 => ?_) (fun hb24 => ?_)
          · have hb24p := hb24
            try simp only [decide_eq_true_eq, decide_eq_false_iff_not] at hb24p
            refine RW.off_guard rfl rfl rfl rfl hb24 ?_
            refine RW.off_guard rfl rfl rfl rfl hb24 ?_
            refine RW.op1 rfl (runs_pick_true rfl hb24 rfl) ?_
            refine RW.op1 rfl (runs_move rfl) ?_
            refine RW.off_guard rfl rfl rfl rfl rfl ?_
            refine RW.off_guard rfl rfl rfl rfl rfl ?_
            refine RW.op1 rfl (runs_pick_true rfl rfl rfl) ?_
            refine RW.op1 rfl (runs_move rfl) ?_
            refine RW.off_guard rfl rfl rfl rfl rfl ?_
            refine RW.off_guard rfl rfl rfl rfl rfl ?_
            refine RW.op1 rfl (runs_pick_true rfl rfl rfl) ?_
            refine RW.op1 rfl (runs_move rfl) ?_
            refine RW.off_guard rfl rfl rfl rfl rfl ?_
            refine RW.off_guard rfl rfl rfl rfl rfl ?_
            refine RW.op1 rfl (runs_pick_true rfl rfl rfl) ?_
            refine RW.op1 rfl (runs_move rfl) ?_
            refine RW.off_guard rfl rfl rfl rfl rfl ?_
            refine RW.off_guard rfl rfl rfl rfl rfl ?_
            refine RW.op1 rfl (runs_pick_true rfl rfl rfl) ?_
            refine RW.op1 rfl (runs_move rfl) ?_
            refine RW.off_guard rfl rfl rfl rfl rfl ?_
            refine RW.off_guard rfl rfl rfl rfl rfl ?_
            refine RW.op1 rfl (runs_pick_true rfl rfl rfl) ?_
            refine RW.op1 rfl (runs_move rfl) ?_
            refine RW.off_guard rfl rfl rfl rfl rfl ?_
            refine RW.off_guard rfl rfl rfl rfl rfl ?_
            refine RW.op1 rfl (runs_pick_true rfl rfl rfl) ?_
            refine RW.op1 rfl (runs_assign rfl) ?_
            refine RW.done ?_
            first
              | exact AQ.meet () hst ⟨rfl, rfl, rfl, congrArg (fun z => some (Value.bool z)) (bad_2 (by omega) (by omega) (by omega) (by omega) (by omega) (by omega) (by omega) (by omega) (by omega)), trivial⟩
              | exact AQ.meet () hst ⟨rfl, rfl, rfl, congrArg (fun z => some (Value.bool z)) (bad_1 (by omega)), trivial⟩
          · have hb24p := hb24
            try simp only [decide_eq_true_eq, decide_eq_false_iff_not] at hb24p
            refine RW.on_guard rfl rfl rfl rfl hb24 ?_
            refine RW.op1 rfl (runs_move rfl) ?_
            refine RW.on_guard rfl rfl rfl rfl hb24 ?_
            refine RW.op1 rfl (runs_eqI rfl rfl) ?_
            refine RW.op1 rfl (runs_pick_false rfl hb24 rfl) ?_
            refine RW.op1 rfl (runs_move rfl) ?_
            refine RW.split (t := 28) rfl (fun hb28 => ?_) (fun hb28 => ?_)
            · have hb28p := hb28
              try simp only [decide_eq_true_eq, decide_eq_false_iff_not] at hb28p
              refine RW.off_guard rfl rfl rfl rfl hb28 ?_
              refine RW.off_guard rfl rfl rfl rfl hb28 ?_
              refine RW.op1 rfl (runs_pick_true rfl hb28 rfl) ?_
              refine RW.op1 rfl (runs_move rfl) ?_
              refine RW.off_guard rfl rfl rfl rfl rfl ?_
              refine RW.off_guard rfl rfl rfl rfl rfl ?_
              refine RW.op1 rfl (runs_pick_true rfl rfl rfl) ?_
              refine RW.op1 rfl (runs_move rfl) ?_
              refine RW.off_guard rfl rfl rfl rfl rfl ?_
              refine RW.off_guard rfl rfl rfl rfl rfl ?_
              refine RW.op1 rfl (runs_pick_true rfl rfl rfl) ?_
              refine RW.op1 rfl (runs_move rfl) ?_
              refine RW.off_guard rfl rfl rfl rfl rfl ?_
              refine RW.off_guard rfl rfl rfl rfl rfl ?_
              refine RW.op1 rfl (runs_pick_true rfl rfl rfl) ?_
              refine RW.op1 rfl (runs_move rfl) ?_
              refine RW.off_guard rfl rfl rfl rfl rfl ?_
              refine RW.off_guard rfl rfl rfl rfl rfl ?_
              refine RW.op1 rfl (runs_pick_true rfl rfl rfl) ?_
              refine RW.op1 rfl (runs_move rfl) ?_
              refine RW.off_guard rfl rfl rfl rfl rfl ?_
              refine RW.off_guard rfl rfl rfl rfl rfl ?_
              refine RW.op1 rfl (runs_pick_true rfl rfl rfl) ?_
              refine RW.op1 rfl (runs_assign rfl) ?_
              refine RW.done ?_
              first
                | exact AQ.meet () hst ⟨rfl, rfl, rfl, congrArg (fun z => some (Value.bool z)) (bad_2 (by omega) (by omega) (by omega) (by omega) (by omega) (by omega) (by omega) (by omega) (by omega)), trivial⟩
                | exact AQ.meet () hst ⟨rfl, rfl, rfl, congrArg (fun z => some (Value.bool z)) (bad_1 (by omega)), trivial⟩
            · have hb28p := hb28
              try simp only [decide_eq_true_eq, decide_eq_false_iff_not] at hb28p
              refine RW.on_guard rfl rfl rfl rfl hb28 ?_
              refine RW.op1 rfl (runs_move rfl) ?_
              refine RW.on_guard rfl rfl rfl rfl hb28 ?_
              refine RW.op1 rfl (runs_eqI rfl rfl) ?_
              refine RW.op1 rfl (runs_pick_false rfl hb28 rfl) ?_
              refine RW.op1 rfl (runs_move rfl) ?_
              refine RW.split (t := 32) rfl (fun hb32 => ?_) (fun hb32 => ?_)
              · have hb32p := hb32
                try simp only [decide_eq_true_eq, decide_eq_false_iff_not] at hb32p
                refine RW.off_guard rfl rfl rfl rfl hb32 ?_
                refine RW.off_guard rfl rfl rfl rfl hb32 ?_
                refine RW.op1 rfl (runs_pick_true rfl hb32 rfl) ?_
                refine RW.op1 rfl (runs_move rfl) ?_
                refine RW.off_guard rfl rfl rfl rfl rfl ?_
                refine RW.off_guard rfl rfl rfl rfl rfl ?_
                refine RW.op1 rfl (runs_pick_true rfl rfl rfl) ?_
                refine RW.op1 rfl (runs_move rfl) ?_
                refine RW.off_guard rfl rfl rfl rfl rfl ?_
                refine RW.off_guard rfl rfl rfl rfl rfl ?_
                refine RW.op1 rfl (runs_pick_true rfl rfl rfl) ?_
                refine RW.op1 rfl (runs_move rfl) ?_
                refine RW.off_guard rfl rfl rfl rfl rfl ?_
                refine RW.off_guard rfl rfl rfl rfl rfl ?_
                refine RW.op1 rfl (runs_pick_true rfl rfl rfl) ?_
                refine RW.op1 rfl (runs_move rfl) ?_
                refine RW.off_guard rfl rfl rfl rfl rfl ?_
                refine RW.off_guard rfl rfl rfl rfl rfl ?_
                refine RW.op1 rfl (runs_pick_true rfl rfl rfl) ?_
                refine RW.op1 rfl (runs_assign rfl) ?_
                refine RW.done ?_
                first
                  | exact AQ.meet () hst ⟨rfl, rfl, rfl, congrArg (fun z => some (Value.bool z)) (bad_2 (by omega) (by omega) (by omega) (by omega) (by omega) (by omega) (by omega) (by omega) (by omega)), trivial⟩
                  | exact AQ.meet () hst ⟨rfl, rfl, rfl, congrArg (fun z => some (Value.bool z)) (bad_1 (by omega)), trivial⟩
              · have hb32p := hb32
                try simp only [decide_eq_true_eq, decide_eq_false_iff_not] at hb32p
                refine RW.on_guard rfl rfl rfl rfl hb32 ?_
                refine RW.op1 rfl (runs_move rfl) ?_
                refine RW.on_guard rfl rfl rfl rfl hb32 ?_
                refine RW.op1 rfl (runs_eqI rfl rfl) ?_
                refine RW.op1 rfl (runs_pick_false rfl hb32 rfl) ?_
                refine RW.op1 rfl (runs_move rfl) ?_
                refine RW.split (t := 36) rfl (fun hb36 => ?_) (fun hb36 => ?_)
                · have hb36p := hb36
                  try simp only [decide_eq_true_eq, decide_eq_false_iff_not] at hb36p
                  refine RW.off_guard rfl rfl rfl rfl hb36 ?_
                  refine RW.off_guard rfl rfl rfl rfl hb36 ?_
                  refine RW.op1 rfl (runs_pick_true rfl hb36 rfl) ?_
                  refine RW.op1 rfl (runs_move rfl) ?_
                  refine RW.off_guard rfl rfl rfl rfl rfl ?_
                  refine RW.off_guard rfl rfl rfl rfl rfl ?_
                  refine RW.op1 rfl (runs_pick_true rfl rfl rfl) ?_
                  refine RW.op1 rfl (runs_move rfl) ?_
                  refine RW.off_guard rfl rfl rfl rfl rfl ?_
                  refine RW.off_guard rfl rfl rfl rfl rfl ?_
                  refine RW.op1 rfl (runs_pick_true rfl rfl rfl) ?_
                  refine RW.op1 rfl (runs_move rfl) ?_
                  refine RW.off_guard rfl rfl rfl rfl rfl ?_
                  refine RW.off_guard rfl rfl rfl rfl rfl ?_
                  refine RW.op1 rfl (runs_pick_true rfl rfl rfl) ?_
                  refine RW.op1 rfl (runs_assign rfl) ?_
                  refine RW.done ?_
                  first
                    | exact AQ.meet () hst ⟨rfl, rfl, rfl, congrArg (fun z => some (Value.bool z)) (bad_2 (by omega) (by omega) (by omega) (by omega) (by omega) (by omega) (by omega) (by omega) (by omega)), trivial⟩
                    | exact AQ.meet () hst ⟨rfl, rfl, rfl, congrArg (fun z => some (Value.bool z)) (bad_1 (by omega)), trivial⟩
                · have hb36p := hb36
                  try simp only [decide_eq_true_eq, decide_eq_false_iff_not] at hb36p
                  refine RW.on_guard rfl rfl rfl rfl hb36 ?_
                  refine RW.op1 rfl (runs_move rfl) ?_
                  refine RW.on_guard rfl rfl rfl rfl hb36 ?_
                  refine RW.op1 rfl (runs_eqI rfl rfl) ?_
                  refine RW.op1 rfl (runs_pick_false rfl hb36 rfl) ?_
                  refine RW.op1 rfl (runs_move rfl) ?_
                  refine RW.split (t := 40) rfl (fun hb40 => ?_) (fun hb40 => ?_)
                  · have hb40p := hb40
                    try simp only [decide_eq_true_eq, decide_eq_false_iff_not] at hb40p
                    refine RW.off_guard rfl rfl rfl rfl hb40 ?_
                    refine RW.off_guard rfl rfl rfl rfl hb40 ?_
                    refine RW.op1 rfl (runs_pick_true rfl hb40 rfl) ?_
                    refine RW.op1 rfl (runs_move rfl) ?_
                    refine RW.off_guard rfl rfl rfl rfl rfl ?_
                    refine RW.off_guard rfl rfl rfl rfl rfl ?_
                    refine RW.op1 rfl (runs_pick_true rfl rfl rfl) ?_
                    refine RW.op1 rfl (runs_move rfl) ?_
                    refine RW.off_guard rfl rfl rfl rfl rfl ?_
                    refine RW.off_guard rfl rfl rfl rfl rfl ?_
                    refine RW.op1 rfl (runs_pick_true rfl rfl rfl) ?_
                    refine RW.op1 rfl (runs_assign rfl) ?_
                    refine RW.done ?_
                    first
                      | exact AQ.meet () hst ⟨rfl, rfl, rfl, congrArg (fun z => some (Value.bool z)) (bad_2 (by omega) (by omega) (by omega) (by omega) (by omega) (by omega) (by omega) (by omega) (by omega)), trivial⟩
                      | exact AQ.meet () hst ⟨rfl, rfl, rfl, congrArg (fun z => some (Value.bool z)) (bad_1 (by omega)), trivial⟩
                  · have hb40p := hb40
                    try simp only [decide_eq_true_eq, decide_eq_false_iff_not] at hb40p
                    refine RW.on_guard rfl rfl rfl rfl hb40 ?_
                    refine RW.op1 rfl (runs_move rfl) ?_
                    refine RW.on_guard rfl rfl rfl rfl hb40 ?_
                    refine RW.op1 rfl (runs_eqI rfl rfl) ?_
                    refine RW.op1 rfl (runs_pick_false rfl hb40 rfl) ?_
                    refine RW.op1 rfl (runs_move rfl) ?_
                    refine RW.split (t := 44) rfl (fun hb44 => ?_) (fun hb44 => ?_)
                    · have hb44p := hb44
                      try simp only [decide_eq_true_eq, decide_eq_false_iff_not] at hb44p
                      refine RW.off_guard rfl rfl rfl rfl hb44 ?_
                      refine RW.off_guard rfl rfl rfl rfl hb44 ?_
                      refine RW.op1 rfl (runs_pick_true rfl hb44 rfl) ?_
                      refine RW.op1 rfl (runs_move rfl) ?_
                      refine RW.off_guard rfl rfl rfl rfl rfl ?_
                      refine RW.off_guard rfl rfl rfl rfl rfl ?_
                      refine RW.op1 rfl (runs_pick_true rfl rfl rfl) ?_
                      refine RW.op1 rfl (runs_assign rfl) ?_
                      refine RW.done ?_
                      first
                        | exact AQ.meet () hst ⟨rfl, rfl, rfl, congrArg (fun z => some (Value.bool z)) (bad_2 (by omega) (by omega) (by omega) (by omega) (by omega) (by omega) (by omega) (by omega) (by omega)), trivial⟩
                        | exact AQ.meet () hst ⟨rfl, rfl, rfl, congrArg (fun z => some (Value.bool z)) (bad_1 (by omega)), trivial⟩
                    · have hb44p := hb44
                      try simp only [decide_eq_true_eq, decide_eq_false_iff_not] at hb44p
                      refine RW.on_guard rfl rfl rfl rfl hb44 ?_
                      refine RW.op1 rfl (runs_move rfl) ?_
                      refine RW.on_guard rfl rfl rfl rfl hb44 ?_
                      refine RW.op1 rfl (runs_eqI rfl rfl) ?_
                      refine RW.op1 rfl (runs_pick_false rfl hb44 rfl) ?_
                      refine RW.op1 rfl (runs_move rfl) ?_
                      refine RW.split (t := 48) rfl (fun hb48 => ?_) (fun hb48 => ?_)
                      · have hb48p := hb48
                        try simp only [decide_eq_true_eq, decide_eq_false_iff_not] at hb48p
                        refine RW.off_guard rfl rfl rfl rfl hb48 ?_
                        refine RW.off_guard rfl rfl rfl rfl hb48 ?_
                        refine RW.op1 rfl (runs_pick_true rfl hb48 rfl) ?_
                        refine RW.op1 rfl (runs_assign rfl) ?_
                        refine RW.done ?_
                        first
                          | exact AQ.meet () hst ⟨rfl, rfl, rfl, congrArg (fun z => some (Value.bool z)) (bad_2 (by omega) (by omega) (by omega) (by omega) (by omega) (by omega) (by omega) (by omega) (by omega)), trivial⟩
                          | exact AQ.meet () hst ⟨rfl, rfl, rfl, congrArg (fun z => some (Value.bool z)) (bad_1 (by omega)), trivial⟩
                      · have hb48p := hb48
                        try simp only [decide_eq_true_eq, decide_eq_false_iff_not] at hb48p
                        refine RW.on_guard rfl rfl rfl rfl hb48 ?_
                        refine RW.op1 rfl (runs_move rfl) ?_
                        refine RW.on_guard rfl rfl rfl rfl hb48 ?_
                        refine RW.op1 rfl (runs_eqI rfl rfl) ?_
                        refine RW.op1 rfl (runs_pick_false rfl hb48 rfl) ?_
                        refine RW.op1 rfl (runs_assign rfl) ?_
                        refine RW.done ?_
                        first
                          | exact AQ.meet () hst ⟨rfl, rfl, rfl, congrArg (fun z => some (Value.bool z)) (bad_2 (by omega) (by omega) (by omega) (by omega) (by omega) (by omega) (by omega) (by omega) (by omega)), trivial⟩
                          | exact AQ.meet () hst ⟨rfl, rfl, rfl, congrArg (fun z => some (Value.bool z)) (bad_1 (by omega)), trivial⟩
    · rintro _ w hstn
      clear hst
      have hst := hstn
      clear hstn
      refine AQ.next ?_
      refine CW.seq ?_
      refine CW.seq ?_
      -- region 6
      refine CW.region ?_
      refine RW.op1 rfl (runs_move rfl) ?_
      refine RW.op1 rfl (runs_not rfl) ?_
      refine RW.done ?_
      refine AQ.next ?_
      refine CW.cond rfl (fun hc53 => ?_) (fun hc53 => ?_)
      · have hcb53 := hc53
        try simp only [decide_eq_true_eq, decide_eq_false_iff_not] at hc53
        have hsr : safeR r = true := by revert hcb53; cases safeR r <;> simp
        have hr1 : encR r = encL (r : Int) := by
          unfold encR
          rw [if_pos hsr, encL_one (by omega) (by have := safe_small hsr; omega)]
        refine CW.seq ?_
        -- region 7
        refine CW.region ?_
        refine RW.op1 rfl (runs_move rfl) ?_
        refine RW.op1 rfl (runs_move rfl) ?_
        refine RW.op1 rfl (runs_runeStr (by rw [Try.underlying21]; rfl) Try.underlying9 rfl) ?_
        rw [enc_str]
        have hz2 := strOf_size (encL (r : Int))
        have h4 := (encL_len (r : Int)).2
        refine RW.op1 rfl (runs_addS rfl rfl (by omega)) ?_
        rw [strOf_app]
        refine RW.op1 rfl (runs_assign rfl) ?_
        refine RW.done ?_
        refine AQ.next ?_
        refine CW.exit ?_
        refine AQ.past_exit ?_
        refine AQ.block_hit ?_
        exact AQ.again (x := (pos, out)) (nextP s pos, _) ⟨hst, by rw [hout, hr1]⟩ ⟨rfl, rfl, trivial⟩ (by dsimp only; omega)
      · have hcb53 := hc53
        try simp only [decide_eq_true_eq, decide_eq_false_iff_not] at hc53
        have hr1 : encR r = (encL (r : Int)).flatMap pctB := by
          unfold encR
          rw [if_neg (by revert hcb53; cases safeR r <;> simp)]
        refine CW.skip ?_
        refine AQ.next ?_
        refine CW.seq ?_
        -- region 8
        refine CW.region ?_
        refine RW.op1 rfl (runs_move rfl) ?_
        refine RW.op1 rfl (runs_runeStr (by rw [Try.underlying21]; rfl) Try.underlying9 rfl) ?_
        refine RW.opE rfl (runs_bytesOf Try.underlying9 Try.underlying25 Try.underlying5 rfl hst) ?_
        rintro _ w ⟨b31, cap31, pad31, rfl, hcap31, hstn⟩
        clear hst
        have hst := hstn
        clear hstn
        first
          | refine RW.op1 rfl (RdL.len Try.underlying25 rfl (by assumption)) ?_
          | refine RW.op1 rfl (runs_lenL Try.underlying25 rfl) ?_
          | refine RW.op1 rfl (Grow.len Try.underlying25 rfl (by assumption)) ?_
        refine RW.op1 rfl (runs_move rfl) ?_
        refine RW.done ?_
        refine AQ.next ?_
        refine CW.block ?_
        -- loop 2
        refine CW.loop Nat (fun j w => St w0 w I ((b31, rowB (encL (r : Int)) pad31 5) :: (b9, .stringIter s (nextP s pos)) :: L) ∧ j ≤ (encL (r : Int)).length) (fun j => [(3, .string (strOf (out ++ ((encL (r : Int)).take j).flatMap pctB))), (10, .pointer (some ⟨b9, 0, none⟩)), (60, .slice (some ⟨b31, 0, none⟩) (encL (r : Int)).length cap31), (61, .int .i64 ((encL (r : Int)).length : Nat)), (62, .int .i64 (j : Nat))]) (fun j => (encL (r : Int)).length - j) ⟨0, ⟨hst, Nat.zero_le _⟩, ⟨by rw [List.take_zero, List.flatMap_nil, List.append_nil]; rfl, rfl, rfl, rfl, rfl, trivial⟩⟩ ?_
        clear hst
        rintro j w ⟨hst, hj⟩
        have h4 := (encL_len (r : Int)).2
        refine CW.seq ?_
        -- region 9
        refine CW.region ?_
        refine RW.op1 rfl (runs_lss rfl rfl) ?_
        refine RW.done ?_
        refine AQ.next ?_
        refine CW.seq ?_
        refine CW.cond rfl (fun hc63 => ?_) (fun hc63 => ?_)
        · have hcb63 := hc63
          try simp only [decide_eq_true_eq, decide_eq_false_iff_not] at hc63
          have hj1 : j < (encL (r : Int)).length := by omega
          have hget := rowB_get (bs := encL (r : Int)) (pad := pad31) hj1
          have hft := flat_take (f := pctB) hj1
          have h5 := flat_len (f := pctB) (n := 3) ((encL (r : Int)).take j) (fun _ _ => by simp [pctB])
          rw [List.length_take] at h5
          generalize ((encL (r : Int)).take j).flatMap pctB = o2 at hft h5 ⊢
          generalize (encL (r : Int)).getD j 0 = c at hget hft
          have hz2 := strOf_size (out ++ o2)
          rw [List.length_append] at hz2
          have hcl := c.toNat_lt
          refine CW.skip ?_
          refine AQ.next ?_
          refine CW.seq ?_
          refine CW.block ?_
          refine CW.seq ?_
          -- region 10
          refine CW.region ?_
          refine RW.op1 rfl (runs_indexAddr0 Try.underlying25 ti5 rfl rfl (by omega)) ?_
          refine RW.op1 rfl (runs_load1 sc5 rfl (hst.cell_own (k := 0) rfl (by rw [Nat.zero_add, Int.toNat_natCast, Nat.mul_one]; exact hget))) ?_
          refine RW.op1 rfl (runs_assign rfl) ?_
          refine RW.done ?_
          refine AQ.next ?_
          -- region 11
          refine CW.draw (fun _ => True) (.q 0 (.q 1 (.q 2 (.q 3 (.q 4 (.q 5 (.q 6 (.q 7 (.q 8 (.q 9 (.q 10 (.q 11 (.q 12 (.q 13 (.q 14 (.q 15 (.q 16 .nil))))))))))))))))) follows (by kernel_rfl) trivial ?_
          replace hst := hst.draw
          refine DRW.q rfl rfl (fun w' hF => runs_move rfl) ?_
          refine DRW.q rfl rfl (fun w' hF => runs_move rfl) ?_
          refine DRW.q rfl rfl (fun w' hF => runs_shrE (n := 4) rfl rfl (by decide)) ?_
          rw [show ((c.toNat : Nat) : Int) / 2 ^ 4 = ((c.toNat / 16 : Nat) : Int) from rfl]
          refine DRW.q rfl rfl (fun w' hF => runs_move rfl) ?_
          refine DRW.q rfl rfl (fun w' hF => runs_shrE (n := 4) rfl rfl (by decide)) ?_
          rw [show ((c.toNat : Nat) : Int) / 2 ^ 4 = ((c.toNat / 16 : Nat) : Int) from rfl]
          refine DRW.q rfl rfl (fun w' hF => runs_addW rfl rfl) ?_
          refine DRW.q rfl rfl (fun w' hF => runs_hexSl (n := c.toNat / 16) Try.underlying9 rfl rfl rfl rfl (by rw [IntKind.wrap_u8]; omega) (by omega)) ?_
          refine DRW.q rfl rfl (fun w' hF => runs_addS rfl rfl (by rw [strOf_size]; show 1 + 1 ≤ _; omega)) ?_
          rw [show (⟨#[37]⟩ : ByteArray) ++ strOf [hexD (c.toNat / 16)] = strOf [37, hexD (c.toNat / 16)] from strOf_app [37] _]
          refine DRW.q rfl rfl (fun w' hF => runs_move rfl) ?_
          refine DRW.q rfl rfl (fun w' hF => runs_and rfl rfl) ?_
          rw [and15]
          refine DRW.q rfl rfl (fun w' hF => runs_move rfl) ?_
          refine DRW.q rfl rfl (fun w' hF => runs_and rfl rfl) ?_
          rw [and15]
          refine DRW.q rfl rfl (fun w' hF => runs_addW rfl rfl) ?_
          refine DRW.q rfl rfl (fun w' hF => runs_hexSl (n := c.toNat % 16) Try.underlying9 rfl rfl rfl rfl (by rw [IntKind.wrap_u8]; omega) (by omega)) ?_
          refine DRW.q rfl rfl (fun w' hF => runs_addS rfl rfl (by rw [strOf_size, strOf_size]; show 2 + 1 ≤ _; omega)) ?_
          rw [strOf_app, show [37, hexD (c.toNat / 16)] ++ [hexD (c.toNat % 16)] = pctB c from rfl]
          have hz3 := strOf_size (pctB c)
          have hz4 : (pctB c).length = 3 := rfl
          refine DRW.q rfl rfl (fun w' hF => runs_addS rfl rfl (by omega)) ?_
          rw [strOf_app, List.append_assoc, ← hft]
          refine DRW.q rfl rfl (fun w' hF => runs_assign rfl) ?_
          refine DRW.done ?_
          refine AQ.block_normal ?_
          refine AQ.next ?_
          -- region 12
          refine CW.region ?_
          refine RW.op1 rfl (runs_add rfl rfl (by omega)) ?_
          refine RW.op1 rfl (runs_move rfl) ?_
          refine RW.done ?_
          exact AQ.again (x := j) (j + 1) ⟨hst, by omega⟩ ⟨rfl, rfl, rfl, rfl, rfl, trivial⟩ (by omega)
        · have hcb63 := hc63
          try simp only [decide_eq_true_eq, decide_eq_false_iff_not] at hc63
          have hj2 : (encL (r : Int)).flatMap pctB = ((encL (r : Int)).take j).flatMap pctB := by rw [List.take_of_length_le (by omega)]
          refine CW.exit ?_
          refine AQ.past_exit ?_
          refine AQ.past_exit ?_
          refine AQ.block_hit ?_
          refine AQ.block_normal ?_
          exact AQ.again (x := (pos, out)) (nextP s pos, _) ⟨hst.drop1, by rw [hout, hr1, hj2]⟩ ⟨rfl, rfl, trivial⟩ (by dsimp only; omega)
  · have hcb12 := hc12
    try simp only [decide_eq_true_eq, decide_eq_false_iff_not] at hc12
    have hnx := runesAt_end hc12
    refine CW.exit ?_
    refine AQ.past_exit ?_
    refine AQ.past_exit ?_
    refine AQ.block_hit ?_
    refine AQ.next ?_
    refine CW.seq ?_
    -- region 13
    refine CW.region ?_
    rw [hnx, List.flatMap_nil, List.append_nil] at hout
    rw [← hout]
    refine RW.op1 rfl (runs_move rfl) ?_
    refine RW.op1 rfl (runs_assign rfl) ?_
    refine RW.done ?_
    refine AQ.next ?_
    refine CW.ret ?_
    refine AQ.ret1 rfl rfl ?_
    exact ⟨I, hle, rfl, hst.drop1⟩
end Go.Proofs.YthblbockghgchaaX
