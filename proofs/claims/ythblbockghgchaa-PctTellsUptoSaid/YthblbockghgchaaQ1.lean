/- Searches of a byte, encoding: what these come to. -/
import Derived.Test.YthblbockghgchaaT
import Derived.Test.YthblbockghgchaaQ0
namespace Go.Proofs.YthblbockghgchaaX
set_option linter.unusedVariables false
set_option linter.unusedSimpArgs false
open Go Go.RowKit Go.Proofs

set_option maxRecDepth 100000 in
set_option maxHeartbeats 1000000 in
theorem sidx_spec {w0 w : World} {I : Imm} {L : Own} (hst : St w0 w I L) (s : ByteArray) (c : UInt8) :
    Calls Try.prog 26 #[.string s, .int .u8 (c.toNat : Int)] w fun e w' => e = .returned (.int .i64 (idxB s.toList c)) ∧ St w0 w' I L := by
  refine enter Try.func26 rfl (N := 8) rfl rfl ?_
  simp only [List.zipIdx_cons, List.zipIdx_nil, List.map_cons, List.map_nil, Nat.zero_add, Nat.reduceAdd]
  have hle := Imm.le.refl I
  refine CW.seq ?_
  -- region 0
  refine CW.region ?_
  refine RW.op1 rfl (runs_assign rfl) ?_
  refine RW.done ?_
  refine AQ.next ?_
  refine CW.seq ?_
  -- region 1
  refine CW.region ?_
  refine RW.op1 rfl (runs_move rfl) ?_
  refine RW.op1 rfl (runs_move rfl) ?_
  refine RW.op1 rfl (runs_indexByteX Try.func27 (by kernel_rfl) (by kernel_rfl) (by kernel_rfl) (by kernel_rfl) rfl rfl rfl) ?_
  refine RW.op1 rfl (runs_assign rfl) ?_
  refine RW.done ?_
  refine AQ.next ?_
  refine CW.ret ?_
  refine AQ.ret1 rfl rfl ?_
  exact ⟨rfl, hst⟩
set_option maxRecDepth 100000 in
set_option maxHeartbeats 1000000 in
theorem ixb_spec {w0 w : World} {I : Imm} {L : Own} (hst : St w0 w I L) (s : ByteArray) (c : UInt8) :
    Calls Try.prog 22 #[.string s, .int .u8 (c.toNat : Int)] w fun e w' => e = .returned (.int .i64 (idxB s.toList c)) ∧ St w0 w' I L := by
  refine enter Try.func22 rfl (N := 8) rfl rfl ?_
  simp only [List.zipIdx_cons, List.zipIdx_nil, List.map_cons, List.map_nil, Nat.zero_add, Nat.reduceAdd]
  have hle := Imm.le.refl I
  refine CW.seq ?_
  -- region 0
  refine CW.region ?_
  refine RW.op1 rfl (runs_assign rfl) ?_
  refine RW.done ?_
  refine AQ.next ?_
  refine CW.seq ?_
  -- region 1
  refine CW.region ?_
  refine RW.op1 rfl (runs_move rfl) ?_
  refine RW.op1 rfl (runs_move rfl) ?_
  refine RW.call rfl call26 rfl rfl (sidx_spec hst s c) ?_
  rintro e w ⟨rfl, hstn⟩
  clear hst
  have hst := hstn
  clear hstn
  refine ⟨_, rfl, ?_⟩
  refine RW.op1 rfl (runs_assign rfl) ?_
  refine RW.done ?_
  refine AQ.next ?_
  refine CW.ret ?_
  refine AQ.ret1 rfl rfl ?_
  exact ⟨rfl, hst⟩
set_option maxRecDepth 100000 in
set_option maxHeartbeats 1000000 in
theorem ixr_spec {w0 w : World} {I : Imm} {L : Own} (hst : St w0 w I L) (s : ByteArray) (r : Nat) (hr : r < 128) :
    Calls Try.prog 21 #[.string s, .int .i32 (r : Int)] w fun e w' => e = .returned (.int .i64 (idxB s.toList (u8 (r : Int)))) ∧ St w0 w' I L := by
  refine enter Try.func21 rfl (N := 187) rfl rfl ?_
  simp only [List.zipIdx_cons, List.zipIdx_nil, List.map_cons, List.map_nil, Nat.zero_add, Nat.reduceAdd]
  have hle := Imm.le.refl I
  refine CW.seq ?_
  -- region 0
  refine CW.region ?_
  refine RW.op1 rfl (runs_assign rfl) ?_
  refine RW.done ?_
  refine AQ.next ?_
  refine CW.block ?_
  refine CW.seq ?_
  -- region 34
  refine CW.region ?_
  refine RW.op1 rfl (runs_move rfl) ?_
  refine RW.op1 rfl (runs_leq rfl rfl) ?_
  refine RW.op1 rfl (runs_move rfl) ?_
  have hk163 := (show decide ((0 : Int) ≤ (r : Int)) = true by simp)
  refine RW.on_guard rfl rfl rfl rfl hk163 ?_
  refine RW.op1 rfl (runs_move rfl) ?_
  refine RW.on_guard rfl rfl rfl rfl hk163 ?_
  refine RW.op1 rfl (runs_lss rfl rfl) ?_
  refine RW.op1 rfl (runs_pick_true rfl hk163 rfl) ?_
  refine RW.op1 rfl (runs_assign rfl) ?_
  refine RW.done ?_
  refine AQ.next ?_
  refine CW.cond rfl (fun hc => ?_) (fun hc => absurd hc (by simp; omega))
  refine CW.seq ?_
  -- region 35
  refine CW.region ?_
  refine RW.op1 rfl (runs_move rfl) ?_
  refine RW.op1 rfl (runs_move rfl) ?_
  refine RW.op1 rfl (runs_convB (by rw [Try.underlying21]; rfl) Try.underlying5 rfl) ?_
  refine RW.call rfl call22 rfl rfl (ixb_spec hst s (u8 (r : Int))) ?_
  rintro e w ⟨rfl, hstn⟩
  clear hst
  have hst := hstn
  clear hstn
  refine ⟨_, rfl, ?_⟩
  refine RW.op1 rfl (runs_assign rfl) ?_
  refine RW.done ?_
  refine AQ.next ?_
  refine CW.ret ?_
  refine AQ.block_ret ?_
  refine AQ.ret1 rfl rfl ?_
  exact ⟨rfl, hst⟩
set_option maxRecDepth 100000 in
set_option maxHeartbeats 1000000 in
theorem cr_spec {w0 w : World} {I : Imm} {L : Own} (hst : St w0 w I L) (s : ByteArray) (r : Nat) (hr : r < 128) :
    Calls Try.prog 18 #[.string s, .int .i32 (r : Int)] w fun e w' => e = .returned (.bool (decide (0 ≤ idxB s.toList (u8 (r : Int))))) ∧ St w0 w' I L := by
  refine enter Try.func18 rfl (N := 9) rfl rfl ?_
  simp only [List.zipIdx_cons, List.zipIdx_nil, List.map_cons, List.map_nil, Nat.zero_add, Nat.reduceAdd]
  have hle := Imm.le.refl I
  refine CW.seq ?_
  -- region 0
  refine CW.region ?_
  refine RW.op1 rfl (runs_assign rfl) ?_
  refine RW.done ?_
  refine AQ.next ?_
  refine CW.seq ?_
  -- region 1
  refine CW.region ?_
  refine RW.op1 rfl (runs_move rfl) ?_
  refine RW.op1 rfl (runs_move rfl) ?_
  refine RW.call rfl call21 rfl rfl (ixr_spec hst s r hr) ?_
  rintro e w ⟨rfl, hstn⟩
  clear hst
  have hst := hstn
  clear hstn
  refine ⟨_, rfl, ?_⟩
  refine RW.op1 rfl (runs_geq rfl rfl) ?_
  refine RW.op1 rfl (runs_assign rfl) ?_
  refine RW.done ?_
  refine AQ.next ?_
  refine CW.ret ?_
  refine AQ.ret1 rfl rfl ?_
  exact ⟨rfl, hst⟩
set_option maxRecDepth 100000 in
set_option maxHeartbeats 1000000 in
theorem digit_spec {w0 w : World} {I : Imm} {L : Own} (hst : St w0 w I L) (c : UInt8) :
    Calls Try.prog 19 #[.int .u8 (c.toNat : Int)] w fun e w' => e = .returned (.int .i64 (digV c)) ∧ St w0 w' I L := by
  have hcl := c.toNat_lt
  refine enter Try.func19 rfl (N := 14) rfl rfl ?_
  simp only [List.zipIdx_cons, List.zipIdx_nil, List.map_cons, List.map_nil, Nat.zero_add, Nat.reduceAdd]
  have hle := Imm.le.refl I
  refine CW.seq ?_
  -- region 0
  refine CW.region ?_
  refine RW.op1 rfl (runs_assign rfl) ?_
  refine RW.done ?_
  refine AQ.next ?_
  refine CW.seq ?_
  refine CW.seq ?_
  -- region 1
  refine CW.region ?_
  refine RW.op1 rfl (runs_move rfl) ?_
  refine RW.op1 rfl (runs_geq rfl rfl) ?_
  refine RW.op1 rfl (runs_move rfl) ?_
  refine RW.split (t := 5) rfl (fun hb5 => ?_) (fun hb5 => ?_)
  · have hb5p := hb5
    try simp only [decide_eq_true_eq, decide_eq_false_iff_not] at hb5p
    refine RW.on_guard rfl rfl rfl rfl hb5 ?_
    refine RW.op1 rfl (runs_move rfl) ?_
    refine RW.on_guard rfl rfl rfl rfl hb5 ?_
    refine RW.op1 rfl (runs_leq rfl rfl) ?_
    refine RW.op1 rfl (runs_pick_true rfl hb5 rfl) ?_
    refine RW.done ?_
    refine AQ.next ?_
    refine CW.cut Unit (fun _ w => St w0 w I L) (fun _ => [(0, .int .u8 ((upD c).toNat : Int))]) ?_ ?_
    · refine CW.cond rfl (fun hc8 => ?_) (fun hc8 => ?_)
      · have hcb8 := hc8
        try simp only [decide_eq_true_eq, decide_eq_false_iff_not] at hc8
        -- region 2
        refine CW.region ?_
        refine RW.op1 rfl (runs_move rfl) ?_
        refine RW.op1 rfl (runs_subW rfl rfl) ?_
        refine RW.op1 rfl (runs_addW rfl rfl) ?_
        refine RW.op1 rfl (runs_assign rfl) ?_
        refine RW.done ?_
        first
          | exact absurd hc8 (by decide)
          | exact AQ.meet () hst ⟨congrArg (fun z => some (Value.int .u8 z)) (upD_up (by omega)), trivial⟩
          | exact AQ.meet () hst ⟨congrArg (fun z => some (Value.int .u8 z)) (upD_same (by omega)), trivial⟩
      · have hcb8 := hc8
        try simp only [decide_eq_true_eq, decide_eq_false_iff_not] at hc8
        refine CW.skip ?_
        first
          | exact absurd hc8 (by decide)
          | exact AQ.meet () hst ⟨congrArg (fun z => some (Value.int .u8 z)) (upD_up (by omega)), trivial⟩
          | exact AQ.meet () hst ⟨congrArg (fun z => some (Value.int .u8 z)) (upD_same (by omega)), trivial⟩
    · rintro _ w hstn
      clear hst
      have hst := hstn
      clear hstn
      refine AQ.next ?_
      refine CW.seq ?_
      -- region 3
      refine CW.region ?_
      refine RW.op1 rfl (runs_move rfl) ?_
      refine RW.call rfl call22 rfl rfl (ixb_spec hst hexS (upD c)) ?_
      rintro e w ⟨rfl, hstn⟩
      clear hst
      have hst := hstn
      clear hstn
      rw [hexS_list]
      refine ⟨_, rfl, ?_⟩
      refine RW.op1 rfl (runs_assign rfl) ?_
      refine RW.done ?_
      refine AQ.next ?_
      refine CW.ret ?_
      refine AQ.ret1 rfl rfl ?_
      exact ⟨rfl, hst⟩
  · have hb5p := hb5
    try simp only [decide_eq_true_eq, decide_eq_false_iff_not] at hb5p
    refine RW.off_guard rfl rfl rfl rfl hb5 ?_
    refine RW.off_guard rfl rfl rfl rfl hb5 ?_
    refine RW.op1 rfl (runs_pick_false rfl hb5 rfl) ?_
    refine RW.done ?_
    refine AQ.next ?_
    refine CW.cut Unit (fun _ w => St w0 w I L) (fun _ => [(0, .int .u8 ((upD c).toNat : Int))]) ?_ ?_
    · refine CW.cond rfl (fun hc8 => ?_) (fun hc8 => ?_)
      · have hcb8 := hc8
        try simp only [decide_eq_true_eq, decide_eq_false_iff_not] at hc8
        -- region 2
        refine CW.region ?_
        refine RW.op1 rfl (runs_move rfl) ?_
        refine RW.op1 rfl (runs_subW rfl rfl) ?_
        refine RW.op1 rfl (runs_addW rfl rfl) ?_
        refine RW.op1 rfl (runs_assign rfl) ?_
        refine RW.done ?_
        first
          | exact absurd hc8 (by decide)
          | exact AQ.meet () hst ⟨congrArg (fun z => some (Value.int .u8 z)) (upD_up (by omega)), trivial⟩
          | exact AQ.meet () hst ⟨congrArg (fun z => some (Value.int .u8 z)) (upD_same (by omega)), trivial⟩
      · have hcb8 := hc8
        try simp only [decide_eq_true_eq, decide_eq_false_iff_not] at hc8
        refine CW.skip ?_
        first
          | exact absurd hc8 (by decide)
          | exact AQ.meet () hst ⟨congrArg (fun z => some (Value.int .u8 z)) (upD_up (by omega)), trivial⟩
          | exact AQ.meet () hst ⟨congrArg (fun z => some (Value.int .u8 z)) (upD_same (by omega)), trivial⟩
    · rintro _ w hstn
      clear hst
      have hst := hstn
      clear hstn
      refine AQ.next ?_
      refine CW.seq ?_
      -- region 3
      refine CW.region ?_
      refine RW.op1 rfl (runs_move rfl) ?_
      refine RW.call rfl call22 rfl rfl (ixb_spec hst hexS (upD c)) ?_
      rintro e w ⟨rfl, hstn⟩
      clear hst
      have hst := hstn
      clear hstn
      rw [hexS_list]
      refine ⟨_, rfl, ?_⟩
      refine RW.op1 rfl (runs_assign rfl) ?_
      refine RW.done ?_
      refine AQ.next ?_
      refine CW.ret ?_
      refine AQ.ret1 rfl rfl ?_
      exact ⟨rfl, hst⟩
set_option maxRecDepth 100000 in
set_option maxHeartbeats 1000000 in
theorem encode_spec {w0 w : World} {I : Imm} {L : Own} (hst : St w0 w I L) (s : ByteArray) (hs : s.size ≤ 1000000000) :
    Calls Try.prog 8 #[.string s] w fun e w' => ∃ I', Imm.le I I' ∧ e = .returned (.string (strOf (encB s.toList))) ∧ St w0 w' I' L := by
  have hel := encB_len s.toList
  rw [size_toList] at hel
  refine enter Try.func8 rfl (N := 49) rfl rfl ?_
  simp only [List.zipIdx_cons, List.zipIdx_nil, List.map_cons, List.map_nil, Nat.zero_add, Nat.reduceAdd]
  have hle := Imm.le.refl I
  refine CW.seq ?_
  -- region 0
  refine CW.region ?_
  refine RW.op1 rfl (runs_assign rfl) ?_
  refine RW.done ?_
  refine AQ.next ?_
  refine CW.seq ?_
  -- region 1
  refine CW.region ?_
  refine RW.op1 rfl (runs_assign rfl) ?_
  refine RW.done ?_
  refine AQ.next ?_
  refine CW.seq ?_
  refine CW.seq ?_
  -- region 2
  refine CW.region ?_
  refine RW.op1 rfl (runs_move rfl) ?_
  refine RW.opE rfl (runs_rangeS Try.underlying9 rfl hst) ?_
  rintro _ w ⟨b9, rfl, hstn⟩
  clear hst
  have hst := hstn
  clear hstn
  refine RW.done ?_
  refine AQ.next ?_
  refine CW.block ?_
  -- loop 1
  refine CW.loop (Nat × Imm × Value × Own × List UInt8) (fun x w => St w0 w x.2.1 ((b9, .stringIter s x.1) :: (x.2.2.2.1 ++ L)) ∧ I.le x.2.1 ∧ GrowB 5 x.2.2.1 x.2.2.2.2 x.2.2.2.1 ∧ encB s.toList = x.2.2.2.2 ++ (runesAt s x.1).flatMap encR) (fun x => [(3, x.2.2.1), (9, .pointer (some ⟨b9, 0, none⟩))]) (fun x => s.size - x.1) ⟨(0, I, _, [], []), ⟨hst, Imm.le.refl _, GrowB.nil _, by rw [runesAt_zero]; rfl⟩, ⟨rfl, rfl, trivial⟩⟩ ?_
  rintro ⟨pos, J, vo, Lo, out⟩ w ⟨hstn, hle, hgo, hout⟩
  dsimp only at hstn hle hgo hout ⊢
  clear hst
  have hst := hstn
  clear hstn
  refine CW.seq ?_
  -- region 3
  refine CW.region ?_
  refine RW.opE rfl (runs_nextS rfl hst (k := 0) rfl) ?_
  rintro _ w ⟨rfl, hstn⟩
  clear hst
  have hst := hstn
  clear hstn
  simp only [List.set_cons_zero] at hst
  refine RW.op1 rfl (runs_extract rfl (nextV_0 s pos)) ?_
  refine RW.done ?_
  refine AQ.next ?_
  refine CW.seq ?_
  refine CW.cond rfl (fun hc11 => ?_) (fun hc11 => ?_)
  · have hcb11 := hc11
    try simp only [decide_eq_true_eq, decide_eq_false_iff_not] at hc11
    have hnx := runesAt_next hc11
    have hmore := nextP_more hc11
    have hrl := rune_le s pos
    refine CW.skip ?_
    refine AQ.next ?_
    refine CW.block ?_
    refine CW.seq ?_
    -- region 4
    refine CW.region ?_
    refine RW.op1 rfl (runs_extract rfl (nextV_2 hc11)) ?_
    generalize (Utf8.decode s pos).1 = r at hnx hrl ⊢
    rw [hnx, List.flatMap_cons, ← List.append_assoc] at hout
    have hol := congrArg List.length hout
    rw [List.length_append, List.length_append] at hol
    have hrr := encR_len r
    refine RW.op1 rfl (runs_assign rfl) ?_
    refine RW.done ?_
    refine AQ.next ?_
    refine CW.seq ?_
    refine CW.seq ?_
    -- region 5
    refine CW.cut Unit (fun _ w => St w0 w J ((b9, .stringIter s (nextP s pos)) :: (Lo ++ L))) (fun _ => [(3, vo), (5, .int .i32 (r : Int)), (9, .pointer (some ⟨b9, 0, none⟩)), (23, .bool (safeR r))]) ?_ ?_
    · -- region 5
      refine CW.region ?_
      refine RW.op1 rfl (runs_move rfl) ?_
      refine RW.op1 rfl (runs_geq rfl rfl) ?_
      refine RW.op1 rfl (runs_move rfl) ?_
      refine RW.split (t := 15) rfl (fun hb15 => ?_) (fun hb15 => ?_)
      · have hb15p := hb15
        try simp only [decide_eq_true_eq, decide_eq_false_iff_not] at hb15p
        refine RW.on_guard rfl rfl rfl rfl hb15 ?_
        refine RW.op1 rfl (runs_move rfl) ?_
        refine RW.on_guard rfl rfl rfl rfl hb15 ?_
        refine RW.op1 rfl (runs_leq rfl rfl) ?_
        refine RW.op1 rfl (runs_pick_true rfl hb15 rfl) ?_
        refine RW.op1 rfl (runs_move rfl) ?_
        refine RW.split (t := 19) rfl (fun hb19 => ?_) (fun hb19 => ?_)
        · have hb19p := hb19
          try simp only [decide_eq_true_eq, decide_eq_false_iff_not] at hb19p
          refine RW.on_guard rfl rfl rfl rfl hb19 ?_
          refine RW.op1 rfl (runs_move rfl) ?_
          refine RW.on_guard rfl rfl rfl rfl hb19 ?_
          refine RW.call rfl call18 rfl rfl (cr_spec hst otherS r (by omega)) ?_
          rintro e w ⟨rfl, hstn⟩
          clear hst
          have hst := hstn
          clear hstn
          rw [otherS_list]
          refine ⟨_, rfl, ?_⟩
          refine RW.on_guard rfl rfl rfl rfl hb19 ?_
          refine RW.op1 rfl (runs_not rfl) ?_
          refine RW.op1 rfl (runs_pick_true rfl hb19 rfl) ?_
          refine RW.done ?_
          first
            | exact AQ.meet () hst ⟨rfl, rfl, rfl, congrArg (fun z => some (Value.bool z)) (safe_3 (by omega) (by omega)), trivial⟩
            | exact AQ.meet () hst ⟨rfl, rfl, rfl, congrArg (fun z => some (Value.bool z)) (safe_1 (by omega)), trivial⟩
            | exact AQ.meet () hst ⟨rfl, rfl, rfl, congrArg (fun z => some (Value.bool z)) (safe_2 (by omega)), trivial⟩
        · have hb19p := hb19
          try simp only [decide_eq_true_eq, decide_eq_false_iff_not] at hb19p
          refine RW.off_guard rfl rfl rfl rfl hb19 ?_
          refine RW.off_guard rfl rfl rfl rfl hb19 ?_
          refine RW.off_guard rfl rfl rfl rfl hb19 ?_
          refine RW.op1 rfl (runs_pick_false rfl hb19 rfl) ?_
          refine RW.done ?_
          first
            | exact AQ.meet () hst ⟨rfl, rfl, rfl, congrArg (fun z => some (Value.bool z)) (safe_3 (by omega) (by omega)), trivial⟩
            | exact AQ.meet () hst ⟨rfl, rfl, rfl, congrArg (fun z => some (Value.bool z)) (safe_1 (by omega)), trivial⟩
            | exact AQ.meet () hst ⟨rfl, rfl, rfl, congrArg (fun z => some (Value.bool z)) (safe_2 (by omega)), trivial⟩
      · have hb15p := hb15
        try simp only [decide_eq_true_eq, decide_eq_false_iff_not] at hb15p
        refine RW.off_guard rfl rfl rfl rfl hb15 ?_
        refine RW.off_guard rfl rfl rfl rfl hb15 ?_
        refine RW.op1 rfl (runs_pick_false rfl hb15 rfl) ?_
        refine RW.op1 rfl (runs_move rfl) ?_
        refine RW.off_guard rfl rfl rfl rfl rfl ?_
        refine RW.off_guard rfl rfl rfl rfl rfl ?_
        refine RW.off_guard rfl rfl rfl rfl rfl ?_
        refine RW.op1 rfl (runs_pick_false rfl rfl rfl) ?_
        refine RW.done ?_
        first
          | exact AQ.meet () hst ⟨rfl, rfl, rfl, congrArg (fun z => some (Value.bool z)) (safe_3 (by omega) (by omega)), trivial⟩
          | exact AQ.meet () hst ⟨rfl, rfl, rfl, congrArg (fun z => some (Value.bool z)) (safe_1 (by omega)), trivial⟩
          | exact AQ.meet () hst ⟨rfl, rfl, rfl, congrArg (fun z => some (Value.bool z)) (safe_2 (by omega)), trivial⟩
    · rintro _ w hstn
      clear hst
      have hst := hstn
      clear hstn
      refine AQ.next ?_
      refine CW.cond rfl (fun hc23 => ?_) (fun hc23 => ?_)
      · have hcb23 := hc23
        try simp only [decide_eq_true_eq, decide_eq_false_iff_not] at hc23
        have hr1 : encR r = [u8 (r : Int)] := by unfold encR; rw [if_pos hcb23]
        refine CW.seq ?_
        -- region 6
        refine CW.region ?_
        refine RW.op1 rfl (runs_move rfl) ?_
        refine RW.op1 rfl (runs_move rfl) ?_
        refine RW.op1 rfl (runs_convB (by rw [Try.underlying21]; rfl) Try.underlying5 rfl) ?_
        refine RW.opE rfl (runs_litB (bs := [u8 (r : Int)]) rfl Try.underlying25 ti5 (by decide) rfl rfl rfl hst) ?_
        rintro u27 w ⟨J27, hJ27, hstn, h27⟩
        clear hst
        have hst := hstn
        clear hstn
        replace hle := hle.trans hJ27
        refine RW.opE rfl (runs_appendB Try.underlying25 ti5 rfl rfl (hst.perm List.perm_middle.symm) hgo h27 (by simp only [List.length_cons, List.length_nil]; omega)) ?_
        rintro u28 w ⟨L28, hstn, hg28⟩
        clear hst
        have hst := hstn
        clear hstn
        replace hst := hst.perm List.perm_middle
        refine RW.op1 rfl (runs_assign rfl) ?_
        refine RW.done ?_
        refine AQ.next ?_
        refine CW.exit ?_
        refine AQ.past_exit ?_
        refine AQ.block_hit ?_
        exact AQ.again (x := (pos, J, vo, Lo, out)) (nextP s pos, _, _, _, _) ⟨hst, hle, hg28, by rw [hout, hr1]⟩ ⟨rfl, rfl, trivial⟩ (by dsimp only; omega)
      · have hcb23 := hc23
        try simp only [decide_eq_true_eq, decide_eq_false_iff_not] at hc23
        have hr1 : encR r = (encL (r : Int)).flatMap pctB := by unfold encR; rw [if_neg (by rw [hcb23]; decide)]
        refine CW.skip ?_
        refine AQ.next ?_
        refine CW.seq ?_
        -- region 7
        refine CW.region ?_
        refine RW.op1 rfl (runs_move rfl) ?_
        refine RW.op1 rfl (runs_runeStr (by rw [Try.underlying21]; rfl) Try.underlying9 rfl) ?_
        refine RW.opE rfl (runs_bytesOf Try.underlying9 Try.underlying25 Try.underlying5 rfl hst) ?_
        rintro _ w ⟨b31, cap31, pad31, rfl, hcap31, hstn⟩
        clear hst
        have hst := hstn
        clear hstn
        first
          | refine RW.op1 rfl (RdL.len Try.underlying25 rfl (by assumption)) ?_
          | refine RW.op1 rfl (runs_lenL Try.underlying25 rfl) ?_
          | refine RW.op1 rfl (Grow.len Try.underlying25 rfl (by assumption)) ?_
        refine RW.op1 rfl (runs_move rfl) ?_
        refine RW.done ?_
        refine AQ.next ?_
        refine CW.block ?_
        -- loop 2
        refine CW.loop (Nat × Imm × Value × Own) (fun x w => St w0 w x.2.1 ((b31, rowB (encL (r : Int)) pad31 5) :: (b9, .stringIter s (nextP s pos)) :: (x.2.2.2 ++ L)) ∧ I.le x.2.1 ∧ GrowB 5 x.2.2.1 (out ++ ((encL (r : Int)).take x.1).flatMap pctB) x.2.2.2 ∧ x.1 ≤ (encL (r : Int)).length) (fun x => [(3, x.2.2.1), (9, .pointer (some ⟨b9, 0, none⟩)), (31, .slice (some ⟨b31, 0, none⟩) (encL (r : Int)).length cap31), (32, .int .i64 ((encL (r : Int)).length : Nat)), (33, .int .i64 (x.1 : Nat))]) (fun x => (encL (r : Int)).length - x.1) ⟨(0, J, vo, Lo), ⟨hst, hle, by simpa using hgo, Nat.zero_le _⟩, ⟨rfl, rfl, rfl, rfl, rfl, trivial⟩⟩ ?_
        have hLo := hol
        clear hle hgo hst
        rintro ⟨j, J2, vo2, Lo2⟩ w ⟨hst, hle, hg2, hj⟩
        dsimp only at hst hle hg2 hj ⊢
        have h4 := (encL_len (r : Int)).2
        refine CW.seq ?_
        -- region 8
        refine CW.region ?_
        refine RW.op1 rfl (runs_lss rfl rfl) ?_
        refine RW.done ?_
        refine AQ.next ?_
        refine CW.seq ?_
        refine CW.cond rfl (fun hc34 => ?_) (fun hc34 => ?_)
        · have hcb34 := hc34
          try simp only [decide_eq_true_eq, decide_eq_false_iff_not] at hc34
          have hj1 : j < (encL (r : Int)).length := by omega
          have hget := rowB_get (bs := encL (r : Int)) (pad := pad31) hj1
          have hft := flat_take (f := pctB) hj1
          generalize (encL (r : Int)).getD j 0 = c at hget hft
          refine CW.skip ?_
          refine AQ.next ?_
          refine CW.seq ?_
          refine CW.block ?_
          refine CW.seq ?_
          -- region 9
          refine CW.region ?_
          refine RW.op1 rfl (runs_indexAddr0 Try.underlying25 ti5 rfl rfl (by omega)) ?_
          refine RW.op1 rfl (runs_load1 sc5 rfl (hst.cell_own (k := 0) rfl (by rw [Nat.zero_add, Int.toNat_natCast, Nat.mul_one]; exact hget))) ?_
          refine RW.op1 rfl (runs_assign rfl) ?_
          refine RW.done ?_
          refine AQ.next ?_
          -- region 10
          refine CW.draw (fun _ => True) (.q 0 (.q 1 (.q 2 (.q 3 (.q 4 (.q 5 (.q 6 (.l 7 (.l 8 (.q 9 .nil)))))))))) follows (by kernel_rfl) trivial ?_
          replace hst := hst.draw
          refine DRW.q rfl rfl (fun w' hF => runs_move rfl) ?_
          refine DRW.q rfl rfl (fun w' hF => runs_move rfl) ?_
          refine DRW.q rfl rfl (fun w' hF => runs_shrE (n := 4) rfl rfl (by decide)) ?_
          rw [show ((c.toNat : Nat) : Int) / 2 ^ 4 = ((c.toNat / 16 : Nat) : Int) from rfl]
          refine DRW.q rfl rfl (fun w' hF => runs_hexI Try.underlying9 rfl rfl (by have := c.toNat_lt; omega)) ?_
          refine DRW.q rfl rfl (fun w' hF => runs_move rfl) ?_
          refine DRW.q rfl rfl (fun w' hF => runs_and rfl rfl) ?_
          rw [and15]
          refine DRW.q rfl rfl (fun w' hF => runs_hexI Try.underlying9 rfl rfl (by omega)) ?_
          refine DRW.opE rfl rfl (runs_litB (bs := [37, hexD (c.toNat / 16), hexD (c.toNat % 16)]) rfl Try.underlying25 ti5 (by decide) rfl rfl rfl hst) ?_
          rintro u44 w ⟨J44, hJ44, hstn, h44⟩
          clear hst
          have hst := hstn
          clear hstn
          refine ⟨trivial, ?_⟩
          replace hle := hle.trans hJ44
          refine DRW.opE rfl rfl (runs_appendB Try.underlying25 ti5 rfl rfl (hst.perm (perm_two2 _ _ _ _)) hg2 h44 (by have h5 := flat_len (f := pctB) (n := 3) ((encL (r : Int)).take j) (fun _ _ => by simp [pctB]); rw [List.length_take] at h5; rw [List.length_append]; simp only [List.length_cons, List.length_nil]; omega)) ?_
          rintro u45 w ⟨L45, hstn, hg45⟩
          clear hst
          have hst := hstn
          clear hstn
          refine ⟨trivial, ?_⟩
          replace hst := hst.perm (perm_two2 _ _ _ _).symm
          refine DRW.q rfl rfl (fun w' hF => runs_assign rfl) ?_
          refine DRW.done ?_
          refine AQ.block_normal ?_
          refine AQ.next ?_
          -- region 11
          refine CW.region ?_
          refine RW.op1 rfl (runs_add rfl rfl (by omega)) ?_
          refine RW.op1 rfl (runs_move rfl) ?_
          refine RW.done ?_
          exact AQ.again (x := (j, J2, vo2, Lo2)) (j + 1, _, _, _) ⟨hst, hle, by rw [hft, ← List.append_assoc]; exact hg45, by omega⟩ ⟨rfl, rfl, rfl, rfl, rfl, trivial⟩ (by dsimp only; omega)
        · have hcb34 := hc34
          try simp only [decide_eq_true_eq, decide_eq_false_iff_not] at hc34
          have hj2 : (encL (r : Int)).flatMap pctB = ((encL (r : Int)).take j).flatMap pctB := by rw [List.take_of_length_le (by omega)]
          refine CW.exit ?_
          refine AQ.past_exit ?_
          refine AQ.past_exit ?_
          refine AQ.block_hit ?_
          refine AQ.block_normal ?_
          exact AQ.again (x := (pos, J, vo, Lo, out)) (nextP s pos, _, _, _, _) ⟨hst.drop1, hle, hg2, by rw [hout, hr1, hj2]⟩ ⟨rfl, rfl, trivial⟩ (by dsimp only; omega)
  · have hcb11 := hc11
    try simp only [decide_eq_true_eq, decide_eq_false_iff_not] at hc11
    have hnx := runesAt_end hc11
    refine CW.exit ?_
    refine AQ.past_exit ?_
    refine AQ.past_exit ?_
    refine AQ.block_hit ?_
    refine AQ.next ?_
    refine CW.seq ?_
    -- region 12
    refine CW.region ?_
    rw [hnx, List.flatMap_nil, List.append_nil] at hout
    obtain ⟨I12, hI12, hstn, hr12⟩ := GrowB.freeze hgo hst.drop1
    clear hst
    have hst := hstn
    clear hstn
    replace hle := hle.trans hI12
    rw [← hout] at hr12
    refine RW.op1 rfl (runs_move rfl) ?_
    refine RW.op1 rfl (RdB.string Try.underlying25 Try.underlying5 Try.underlying9 rfl hr12 hst) ?_
    refine RW.op1 rfl (runs_assign rfl) ?_
    refine RW.done ?_
    refine AQ.next ?_
    refine CW.ret ?_
    refine AQ.ret1 rfl rfl ?_
    exact ⟨I12, hle, rfl, hst⟩
end Go.Proofs.YthblbockghgchaaX
