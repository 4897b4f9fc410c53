/- Bytes of a number. -/
import Derived.Test.YtfdgnjbbchkgpaaDoorT
import Derived.Test.YtfdgnjbbchkgpaaDoorM2
import Derived.Test.YtfdgnjbbchkgpaaDoorM1
namespace Go.Proofs.YtfdgnjbbchkgpaaDoorX
set_option linter.unusedVariables false
set_option linter.unusedSimpArgs false
open Go Go.RowKit Go.Proofs

set_option maxRecDepth 100000 in
set_option maxHeartbeats 1000000 in
theorem bytes_spec {w0 w : World} {I : Imm} {L : Own} (hst : St w0 w I L) (n size : Int) (hn : i64ok n) (hs : size ≤ 1000000) :
    Calls Tryd.prog 32 #[.int .i64 n, .int .i64 size] w fun e w' => ∃ I' v', Imm.le I I' ∧ e = .returned v' ∧ St w0 w' I' L ∧ RdB I' v' (bytesOf n size) := by
  unfold i64ok at hn
  refine enter Tryd.func32 rfl (N := 28) rfl rfl ?_
  simp only [List.zipIdx_cons, List.zipIdx_nil, List.map_cons, List.map_nil, Nat.zero_add, Nat.reduceAdd]
  have hle := Imm.le.refl I
  refine CW.seq ?_
  -- region 0
  refine CW.region ?_
  refine RW.op1 rfl (runs_assign rfl) ?_
  refine RW.done ?_
  refine AQ.next ?_
  refine CW.seq ?_
  -- region 1
  refine CW.region ?_
  refine RW.op1 rfl (runs_move rfl) ?_
  refine RW.op1 rfl (runs_max rfl rfl) ?_
  obtain ⟨m, hm⟩ : ∃ m : Nat, m = size.toNat := ⟨_, rfl⟩
  have hmx : (if (0 : Int) > size then (0 : Int) else size) = (m : Int) := by split <;> omega
  rw [hmx]
  refine RW.opE rfl (runs_makeSlice (n := m) Tryd.underlying60 ti5 rfl hst (by omega) (by unfold maxLen; omega)) ?_
  rintro _ w ⟨b1, rfl, hstn⟩
  clear hst
  have hst := hstn
  clear hstn
  refine RW.op1 rfl (runs_assign rfl) ?_
  rw [made_b8] at hst
  refine RW.done ?_
  refine AQ.next ?_
  refine CW.seq ?_
  refine CW.seq ?_
  -- region 2
  refine CW.region ?_
  refine RW.op1 rfl (runs_move rfl) ?_
  first
    | refine RW.op1 rfl (RdL.len Tryd.underlying60 rfl (by assumption)) ?_
    | refine RW.op1 rfl (runs_lenL Tryd.underlying60 rfl) ?_
    | refine RW.op1 rfl (Grow.len Tryd.underlying60 rfl (by assumption)) ?_
  refine RW.op1 rfl (runs_move rfl) ?_
  refine RW.done ?_
  refine AQ.next ?_
  refine CW.block ?_
  -- loop 1
  refine CW.loop Nat (fun k w => St w0 w I ((b1, .cells ((bytesTo n m k).map b8).toArray 5) :: L) ∧ k ≤ m) (fun k => [(0, .int .i64 n), (5, .slice (some ⟨b1, 0, none⟩) m m), (11, .int .i64 (m : Int)), (12, .int .i64 (k : Int))]) (fun k => m - k) ⟨0, ⟨by rw [bytesTo_zero]; exact hst, Nat.zero_le _⟩, ⟨rfl, rfl, rfl, rfl, trivial⟩⟩ ?_
  rintro k w ⟨hst, hk⟩
  refine CW.seq ?_
  -- region 3
  refine CW.region ?_
  refine RW.op1 rfl (runs_lss rfl rfl) ?_
  refine RW.done ?_
  refine AQ.next ?_
  refine CW.seq ?_
  refine CW.cond rfl (fun hc13 => ?_) (fun hc13 => ?_)
  · have hcb13 := hc13
    try simp only [decide_eq_true_eq, decide_eq_false_iff_not] at hc13
    refine CW.skip ?_
    refine AQ.next ?_
    refine CW.seq ?_
    refine CW.block ?_
    refine CW.seq ?_
    -- region 4
    refine CW.region ?_
    refine RW.op1 rfl (runs_move rfl) ?_
    refine RW.op1 rfl (runs_assign rfl) ?_
    refine RW.done ?_
    refine AQ.next ?_
    -- region 5
    refine CW.region ?_
    refine RW.op1 rfl (runs_move rfl) ?_
    refine RW.op1 rfl (runs_move rfl) ?_
    refine RW.op1 rfl (runs_move rfl) ?_
    refine RW.op1 rfl (runs_move rfl) ?_
    refine RW.op1 rfl (runs_move rfl) ?_
    refine RW.op1 rfl (runs_quo rfl rfl (by decide)) ?_
    refine RW.op1 rfl (runs_or rfl rfl) ?_
    refine RW.op1 rfl (runs_mulW rfl rfl) ?_
    refine RW.op1 rfl (runs_addW rfl rfl) ?_
    refine RW.op1 rfl (runs_convB (by rw [Tryd.underlying3]; rfl) Tryd.underlying5 rfl) ?_
    first
      | refine RW.op1 rfl (RdL.indexAddr Tryd.underlying60 ti5 (by decide) rfl rfl (by assumption) (by omega)) ?_
      | refine RW.op1 rfl (runs_indexAddr0 Tryd.underlying60 ti5 rfl rfl (by omega)) ?_
    refine RW.opE0 (runs_store1' ti5 rfl rfl hst (k := 0) rfl (by simp [bytesTo_length hk]; omega) (NoFz.zero _) rfl) ?_
    rintro w hstn
    clear hst
    have hst := hstn
    clear hstn
    try simp only [List.set_cons_zero, List.set_cons_succ] at hst
    refine RW.done ?_
    refine AQ.block_normal ?_
    refine AQ.next ?_
    -- region 6
    refine CW.region ?_
    refine RW.op1 rfl (runs_add rfl rfl (by omega)) ?_
    refine RW.op1 rfl (runs_move rfl) ?_
    refine RW.done ?_
    refine AQ.again (k + 1) ⟨?_, by omega⟩ ⟨rfl, rfl, rfl, rfl, trivial⟩ (by omega)
    have e : (0 + (k : Int).toNat * 1) = k := by omega
    have h9 := set_b8 (bytesTo n m k) k (byteAt n k)
    rw [bytesTo_set (by omega)] at h9
    rw [← h9]
    simp only [List.set_cons_zero, e] at hst
    exact hst
  · have hcb13 := hc13
    try simp only [decide_eq_true_eq, decide_eq_false_iff_not] at hc13
    refine CW.exit ?_
    refine AQ.past_exit ?_
    refine AQ.past_exit ?_
    refine AQ.block_hit ?_
    refine AQ.next ?_
    refine CW.seq ?_
    -- region 7
    refine CW.region ?_
    refine RW.op1 rfl (runs_move rfl) ?_
    refine RW.op1 rfl (runs_assign rfl) ?_
    refine RW.done ?_
    refine AQ.next ?_
    refine CW.ret ?_
    refine AQ.ret1 rfl rfl ?_
    have : k = m := by omega
    subst this
    rw [bytesTo_end] at hst
    obtain ⟨I', hI, hst, hr⟩ := RdB.of_block (n := k) (by simp) hst (by unfold maxLen; omega)
    exact ⟨I', _, hI, rfl, hst, by unfold bytesOf; rw [← hm]; exact hr⟩
end Go.Proofs.YtfdgnjbbchkgpaaDoorX
