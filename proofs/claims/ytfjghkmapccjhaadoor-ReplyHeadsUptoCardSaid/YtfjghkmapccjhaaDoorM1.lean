/- What the small functions of this seat come to: copies, comparisons, marks. -/
import Derived.Test.YtfjghkmapccjhaaDoorT
import Derived.Test.YtfjghkmapccjhaaDoorM0
namespace Go.Proofs.YtfjghkmapccjhaaDoorX
set_option linter.unusedVariables false
set_option linter.unusedSimpArgs false
open Go Go.RowKit Go.Proofs

set_option maxRecDepth 100000 in
set_option maxHeartbeats 1000000 in
theorem copy_own {w0 w : World} {I : Imm} {L : Own} (hst : St w0 w I L) {v : Value} {bs : List UInt8} (hv : RdB I v bs) (hb : bs.length ≤ 140737488355328) :
    Calls Tryd.prog 25 #[v] w fun e w' => ∃ v' Lv, e = .returned v' ∧ St w0 w' I (Lv ++ L) ∧ GrowB 5 v' bs Lv := by
  refine enter Tryd.func25 rfl (N := 5) rfl rfl ?_
  simp only [List.zipIdx_cons, List.zipIdx_nil, List.map_cons, List.map_nil, Nat.zero_add, Nat.reduceAdd]
  have hle := Imm.le.refl I
  refine CW.seq ?_
  -- region 0
  refine CW.region ?_
  refine RW.op1 rfl (runs_assign rfl) ?_
  refine RW.done ?_
  refine AQ.next ?_
  refine CW.seq ?_
  -- region 1
  refine CW.region ?_
  refine RW.op1 rfl (runs_move rfl) ?_
  refine RW.opE rfl (runs_appendB (Lv := []) Tryd.underlying36 ti5 rfl rfl hst (GrowB.nil _) (by assumption) (by (try simp) <;> omega)) ?_
  rintro u1 w ⟨Lv1, hstn, hg1⟩
  clear hst
  have hst := hstn
  clear hstn
  refine RW.op1 rfl (runs_assign rfl) ?_
  refine RW.done ?_
  refine AQ.next ?_
  refine CW.ret ?_
  refine AQ.ret1 rfl rfl ?_
  exact ⟨_, _, rfl, hst, hg1⟩
theorem copy_spec {w0 w : World} {I : Imm} {L : Own} (hst : St w0 w I L) {v : Value} {bs : List UInt8} (hv : RdB I v bs) (hb : bs.length ≤ 140737488355328) :
    Calls Tryd.prog 25 #[v] w fun e w' => ∃ I' v', Imm.le I I' ∧ e = .returned v' ∧ St w0 w' I' L ∧ RdB I' v' bs := by
  refine (copy_own hst hv hb).mono fun e w' ⟨v', Lv, h1, h2, h3⟩ => ?_
  obtain ⟨I', hI, hst, hr⟩ := GrowB.freeze h3 h2
  exact ⟨I', v', hI, h1, hst, hr⟩
set_option maxRecDepth 100000 in
set_option maxHeartbeats 1000000 in
theorem cut_spec {w0 w : World} {I : Imm} {L : Own} (hst : St w0 w I L) {v : Value} {bs : List UInt8} (hv : RdB I v bs) {n : Int} (hn : 0 ≤ n ∧ n ≤ 140737488355328) :
    Calls Tryd.prog 12 #[v, .int .i64 n] w fun e w' => ∃ I' v', Imm.le I I' ∧ e = .returned v' ∧ St w0 w' I' L ∧ RdB I' v' (bs.take n.toNat) := by
  refine enter Tryd.func12 rfl (N := 12) rfl rfl ?_
  simp only [List.zipIdx_cons, List.zipIdx_nil, List.map_cons, List.map_nil, Nat.zero_add, Nat.reduceAdd]
  have hle := Imm.le.refl I
  refine CW.seq ?_
  -- region 0
  refine CW.region ?_
  refine RW.op1 rfl (runs_assign rfl) ?_
  refine RW.done ?_
  refine AQ.next ?_
  refine CW.seq ?_
  -- region 1
  refine CW.region ?_
  refine RW.op1 rfl (runs_move rfl) ?_
  refine RW.op1 rfl (runs_move rfl) ?_
  first
    | refine RW.op1 rfl (RdL.len Tryd.underlying36 rfl (by assumption)) ?_
    | refine RW.op1 rfl (runs_lenL Tryd.underlying36 rfl) ?_
    | refine RW.op1 rfl (Grow.len Tryd.underlying36 rfl (by assumption)) ?_
  refine RW.op1 rfl (runs_move rfl) ?_
  refine RW.op1 rfl (runs_min rfl rfl) ?_
  have hm : (if n < (bs.length : Int) then n else (bs.length : Int)).toNat ≤ bs.length ∧ 0 ≤ (if n < (bs.length : Int) then n else (bs.length : Int)) ∧ (if n < (bs.length : Int) then n else (bs.length : Int)) ≤ bs.length := by split <;> omega
  generalize hq : (if n < (bs.length : Int) then n else (bs.length : Int)) = q at *
  have hp := RdB.part hv (lo := 0) (hi := q.toNat) (Nat.zero_le _) hm.1
  refine RW.op1 rfl (RdL.slice_h Tryd.underlying36 ti5 rfl rfl (by assumption) (by omega)) ?_
  refine RW.call rfl call25 rfl rfl (copy_spec hst hp (by rw [List.length_take]; omega)) ?_
  rintro e w ⟨I1, v1, hI1, rfl, hstn, h1⟩
  clear hst
  have hst := hstn
  clear hstn
  replace hle := hle.trans hI1
  refine ⟨_, rfl, ?_⟩
  refine RW.op1 rfl (runs_assign rfl) ?_
  refine RW.done ?_
  refine AQ.next ?_
  refine CW.ret ?_
  refine AQ.ret1 rfl rfl ?_
  refine ⟨I1, v1, hI1, rfl, hst, ?_⟩
  have : (bs.drop 0).take (q.toNat - 0) = bs.take n.toNat := by
    rw [List.drop_zero, Nat.sub_zero]
    rw [← hq]
    split
    · rfl
    · rw [List.take_of_length_le (by omega), List.take_of_length_le (by omega)]
  rw [← this]
  exact h1
set_option maxRecDepth 100000 in
set_option maxHeartbeats 1000000 in
theorem within_spec {w0 w : World} {I : Imm} {L : Own} (hst : St w0 w I L) {v n : Int} (hv : i64ok v) (hn : i64ok n) :
    Calls Tryd.prog 8 #[.int .i64 v, .int .i64 n] w fun e w' => e = .returned (.int .i64 (within v n)) ∧ St w0 w' I L := by
  unfold i64ok at hv hn
  refine enter Tryd.func8 rfl (N := 17) rfl rfl ?_
  simp only [List.zipIdx_cons, List.zipIdx_nil, List.map_cons, List.map_nil, Nat.zero_add, Nat.reduceAdd]
  have hle := Imm.le.refl I
  refine CW.seq ?_
  -- region 0
  refine CW.region ?_
  refine RW.op1 rfl (runs_assign rfl) ?_
  refine RW.done ?_
  refine AQ.next ?_
  refine CW.seq ?_
  refine CW.seq ?_
  -- region 1
  refine CW.region ?_
  refine RW.op1 rfl (runs_move rfl) ?_
  refine RW.op1 rfl (runs_lss rfl rfl) ?_
  refine RW.done ?_
  refine AQ.next ?_
  refine CW.cond rfl (fun hc7 => ?_) (fun hc7 => ?_)
  · have hcb7 := hc7
    try simp only [decide_eq_true_eq, decide_eq_false_iff_not] at hc7
    skip
    refine CW.seq ?_
    -- region 2
    refine CW.region ?_
    refine RW.op1 rfl (runs_assign rfl) ?_
    refine RW.done ?_
    refine AQ.next ?_
    refine CW.ret ?_
    refine AQ.past_ret ?_
    refine AQ.ret1 rfl rfl ?_
    exact ⟨by unfold within; rw [if_pos hc7], hst⟩
  · have hcb7 := hc7
    try simp only [decide_eq_true_eq, decide_eq_false_iff_not] at hc7
    have ht := tmod_bound v n hc7
    refine CW.skip ?_
    refine AQ.next ?_
    refine CW.seq ?_
    -- region 3
    refine CW.region ?_
    refine RW.op1 rfl (runs_move rfl) ?_
    refine RW.op1 rfl (runs_move rfl) ?_
    refine RW.op1 rfl (runs_rem rfl rfl (by omega)) ?_
    refine RW.op1 rfl (runs_assign rfl) ?_
    refine RW.done ?_
    refine AQ.next ?_
    refine CW.seq ?_
    refine CW.seq ?_
    -- region 4
    refine CW.region ?_
    refine RW.op1 rfl (runs_move rfl) ?_
    refine RW.op1 rfl (runs_lss rfl rfl) ?_
    refine RW.done ?_
    refine AQ.next ?_
    refine CW.cond rfl (fun hc12 => ?_) (fun hc12 => ?_)
    · have hcb12 := hc12
      try simp only [decide_eq_true_eq, decide_eq_false_iff_not] at hc12
      -- region 5
      refine CW.region ?_
      refine RW.op1 rfl (runs_move rfl) ?_
      refine RW.op1 rfl (runs_move rfl) ?_
      refine RW.op1 rfl (runs_add rfl rfl (by omega)) ?_
      refine RW.op1 rfl (runs_assign rfl) ?_
      refine RW.done ?_
      refine AQ.next ?_
      refine CW.seq ?_
      -- region 6
      refine CW.region ?_
      refine RW.op1 rfl (runs_move rfl) ?_
      refine RW.op1 rfl (runs_assign rfl) ?_
      refine RW.done ?_
      refine AQ.next ?_
      refine CW.ret ?_
      refine AQ.ret1 rfl rfl ?_
      exact ⟨by rw [within_of_tmod_neg hc7 hc12], hst⟩
    · have hcb12 := hc12
      try simp only [decide_eq_true_eq, decide_eq_false_iff_not] at hc12
      refine CW.skip ?_
      refine AQ.next ?_
      refine CW.seq ?_
      -- region 6
      refine CW.region ?_
      refine RW.op1 rfl (runs_move rfl) ?_
      refine RW.op1 rfl (runs_assign rfl) ?_
      refine RW.done ?_
      refine AQ.next ?_
      refine CW.ret ?_
      refine AQ.ret1 rfl rfl ?_
      exact ⟨by rw [within_of_tmod hc7 hc12], hst⟩
end Go.Proofs.YtfjghkmapccjhaaDoorX
