/- What the disk's functions come to. -/
import Derived.Test.YthocicjjighbnaaT
import Derived.Test.YthocicjjighbnaaD0
namespace Go.Proofs.YthocicjjighbnaaX
set_option linter.unusedVariables false
set_option linter.unusedSimpArgs false
open Go Go.RowKit Go.Proofs

set_option maxRecDepth 100000 in
set_option maxHeartbeats 1000000 in
theorem len_spec {w0 w : World} {I : Imm} {L Ld : Own} {d : Value} {S : DS} (hd : DiskO d S Ld) (hst : St w0 w I (Ld ++ L)) :
    Calls Try.prog 30 #[d] w fun e w' => e = .returned (.int .i64 (S.secs.length : Nat)) ∧ St w0 w' I (Ld ++ L) := by
  obtain ⟨hb, vl, vp, Ls, Lp, rfl, hstn, hgl, hgp, hok, hsh⟩ := hd.opn hst
  clear hst
  have hst := hstn
  clear hstn
  refine enter Try.func30 rfl (N := 8) rfl rfl ?_
  simp only [List.zipIdx_cons, List.zipIdx_nil, List.map_cons, List.map_nil, Nat.zero_add, Nat.reduceAdd]
  have hle := Imm.le.refl I
  refine CW.seq ?_
  -- region 0
  refine CW.region ?_
  refine RW.op1 rfl (runs_assign rfl) ?_
  refine RW.done ?_
  refine AQ.next ?_
  refine CW.seq ?_
  -- region 1
  refine CW.region ?_
  refine RW.op1 rfl (runs_move rfl) ?_
  refine RW.op1 rfl (runs_nilCheck rfl) ?_
  first
    | refine RW.op1 rfl (runs_fieldAddr0 rfl Try.underlying59 rfl ti56 (by decide)) ?_
    | refine RW.op1 rfl (runs_fieldAddr rfl Try.underlying59 rfl ti56 (by decide)) ?_
  first
    | refine RW.op1 rfl (runs_load1 sc56 rfl (hst.cell_own (k := 0) rfl rfl)) ?_
    | refine RW.op1 rfl (runs_load1 sc56 rfl (hst.cell_own (k := 1) rfl rfl)) ?_
    | refine RW.op1 rfl (runs_load1 sc56 rfl (hst.cell_own (k := 2) rfl rfl)) ?_
  first
    | refine RW.op1 rfl (RdL.len Try.underlying56 rfl (by assumption)) ?_
    | refine RW.op1 rfl (runs_lenL Try.underlying56 rfl) ?_
    | refine RW.op1 rfl (Grow.len Try.underlying56 rfl (by assumption)) ?_
  refine RW.op1 rfl (runs_assign rfl) ?_
  refine RW.done ?_
  refine AQ.next ?_
  refine CW.ret ?_
  refine AQ.ret1 rfl rfl ?_
  exact ⟨rfl, hsh hst⟩
set_option maxRecDepth 100000 in
set_option maxHeartbeats 1000000 in
theorem pending_spec {w0 w : World} {I : Imm} {L Ld : Own} {d : Value} {S : DS} (hd : DiskO d S Ld) (hst : St w0 w I (Ld ++ L)) :
    Calls Try.prog 15 #[d] w fun e w' => e = .returned (.int .i64 (S.pend.length : Nat)) ∧ St w0 w' I (Ld ++ L) := by
  obtain ⟨hb, vl, vp, Ls, Lp, rfl, hstn, hgl, hgp, hok, hsh⟩ := hd.opn hst
  clear hst
  have hst := hstn
  clear hstn
  refine enter Try.func15 rfl (N := 8) rfl rfl ?_
  simp only [List.zipIdx_cons, List.zipIdx_nil, List.map_cons, List.map_nil, Nat.zero_add, Nat.reduceAdd]
  have hle := Imm.le.refl I
  refine CW.seq ?_
  -- region 0
  refine CW.region ?_
  refine RW.op1 rfl (runs_assign rfl) ?_
  refine RW.done ?_
  refine AQ.next ?_
  refine CW.seq ?_
  -- region 1
  refine CW.region ?_
  refine RW.op1 rfl (runs_move rfl) ?_
  refine RW.op1 rfl (runs_nilCheck rfl) ?_
  first
    | refine RW.op1 rfl (runs_fieldAddr0 rfl Try.underlying59 rfl ti57 (by decide)) ?_
    | refine RW.op1 rfl (runs_fieldAddr rfl Try.underlying59 rfl ti57 (by decide)) ?_
  first
    | refine RW.op1 rfl (runs_load1 sc57 rfl (hst.cell_own (k := 0) rfl rfl)) ?_
    | refine RW.op1 rfl (runs_load1 sc57 rfl (hst.cell_own (k := 1) rfl rfl)) ?_
    | refine RW.op1 rfl (runs_load1 sc57 rfl (hst.cell_own (k := 2) rfl rfl)) ?_
  first
    | refine RW.op1 rfl (RdL.len Try.underlying57 rfl (by assumption)) ?_
    | refine RW.op1 rfl (runs_lenL Try.underlying57 rfl) ?_
    | refine RW.op1 rfl (Grow.len Try.underlying57 rfl (by assumption)) ?_
  refine RW.op1 rfl (runs_assign rfl) ?_
  refine RW.done ?_
  refine AQ.next ?_
  refine CW.ret ?_
  refine AQ.ret1 rfl rfl ?_
  exact ⟨rfl, hsh hst⟩
set_option maxRecDepth 100000 in
set_option maxHeartbeats 1000000 in
theorem down_spec {w0 w : World} {I : Imm} {L Ld : Own} {d : Value} {S : DS} (hd : DiskO d S Ld) (hst : St w0 w I (Ld ++ L)) :
    Calls Try.prog 28 #[d] w fun e w' => e = .returned (.bool S.down) ∧ St w0 w' I (Ld ++ L) := by
  obtain ⟨hb, vl, vp, Ls, Lp, rfl, hstn, hgl, hgp, hok, hsh⟩ := hd.opn hst
  clear hst
  have hst := hstn
  clear hstn
  refine enter Try.func28 rfl (N := 7) rfl rfl ?_
  simp only [List.zipIdx_cons, List.zipIdx_nil, List.map_cons, List.map_nil, Nat.zero_add, Nat.reduceAdd]
  have hle := Imm.le.refl I
  refine CW.seq ?_
  -- region 0
  refine CW.region ?_
  refine RW.op1 rfl (runs_assign rfl) ?_
  refine RW.done ?_
  refine AQ.next ?_
  refine CW.seq ?_
  -- region 1
  refine CW.region ?_
  refine RW.op1 rfl (runs_move rfl) ?_
  refine RW.op1 rfl (runs_nilCheck rfl) ?_
  first
    | refine RW.op1 rfl (runs_fieldAddr0 rfl Try.underlying59 rfl ti4 (by decide)) ?_
    | refine RW.op1 rfl (runs_fieldAddr rfl Try.underlying59 rfl ti4 (by decide)) ?_
  first
    | refine RW.op1 rfl (runs_load1 sc4 rfl (hst.cell_own (k := 0) rfl rfl)) ?_
    | refine RW.op1 rfl (runs_load1 sc4 rfl (hst.cell_own (k := 1) rfl rfl)) ?_
    | refine RW.op1 rfl (runs_load1 sc4 rfl (hst.cell_own (k := 2) rfl rfl)) ?_
  refine RW.op1 rfl (runs_assign rfl) ?_
  refine RW.done ?_
  refine AQ.next ?_
  refine CW.ret ?_
  refine AQ.ret1 rfl rfl ?_
  exact ⟨rfl, hsh hst⟩
set_option maxRecDepth 100000 in
set_option maxHeartbeats 1000000 in
theorem dmay_spec {w0 w : World} {I : Imm} {L Ld : Own} {d : Value} {S : DS} (hd : DiskO d S Ld) (hst : St w0 w I (Ld ++ L)) (at_ : Int) :
    Calls Try.prog 36 #[d, .int .i64 at_] w fun e w' => e = .returned (.int .i64 (mayR S at_)) ∧ St w0 w' I (Ld ++ L) := by
  obtain ⟨hb, vl, vp, Ls, Lp, rfl, hstn, hgl, hgp, hok, hsh⟩ := hd.opn hst
  clear hst
  have hst := hstn
  clear hstn
  refine enter Try.func36 rfl (N := 22) rfl rfl ?_
  simp only [List.zipIdx_cons, List.zipIdx_nil, List.map_cons, List.map_nil, Nat.zero_add, Nat.reduceAdd]
  have hle := Imm.le.refl I
  refine CW.seq ?_
  -- region 0
  refine CW.region ?_
  refine RW.op1 rfl (runs_assign rfl) ?_
  refine RW.done ?_
  refine AQ.next ?_
  refine CW.seq ?_
  refine CW.block ?_
  refine CW.seq ?_
  -- region 1
  refine CW.region ?_
  refine RW.op1 rfl (runs_move rfl) ?_
  refine RW.op1 rfl (runs_nilCheck rfl) ?_
  first
    | refine RW.op1 rfl (runs_fieldAddr0 rfl Try.underlying59 rfl ti4 (by decide)) ?_
    | refine RW.op1 rfl (runs_fieldAddr rfl Try.underlying59 rfl ti4 (by decide)) ?_
  first
    | refine RW.op1 rfl (runs_load1 sc4 rfl (hst.cell_own (k := 0) rfl rfl)) ?_
    | refine RW.op1 rfl (runs_load1 sc4 rfl (hst.cell_own (k := 1) rfl rfl)) ?_
    | refine RW.op1 rfl (runs_load1 sc4 rfl (hst.cell_own (k := 2) rfl rfl)) ?_
  refine RW.op1 rfl (runs_assign rfl) ?_
  refine RW.done ?_
  refine AQ.next ?_
  refine CW.cond rfl (fun hc5 => ?_) (fun hc5 => ?_)
  · have hcb5 := hc5
    try simp only [decide_eq_true_eq, decide_eq_false_iff_not] at hc5
    refine CW.seq ?_
    -- region 2
    refine CW.region ?_
    refine RW.op1 rfl (runs_assign rfl) ?_
    refine RW.done ?_
    refine AQ.next ?_
    refine CW.ret ?_
    refine AQ.block_ret ?_
    refine AQ.past_ret ?_
    refine AQ.ret1 rfl rfl ?_
    exact ⟨by unfold mayR; rw [if_pos (by assumption)], hsh hst⟩
  · have hcb5 := hc5
    try simp only [decide_eq_true_eq, decide_eq_false_iff_not] at hc5
    refine CW.seq ?_
    -- region 3
    refine CW.region ?_
    refine RW.op1 rfl (runs_move rfl) ?_
    refine RW.op1 rfl (runs_lss rfl rfl) ?_
    refine RW.op1 rfl (runs_move rfl) ?_
    refine RW.split (t := 13) rfl (fun hb13 => ?_) (fun hb13 => ?_)
    · have hb13p := hb13
      try simp only [decide_eq_true_eq, decide_eq_false_iff_not] at hb13p
      refine RW.off_guard rfl rfl rfl rfl hb13 ?_
      refine RW.off_guard rfl rfl rfl rfl hb13 ?_
      refine RW.off_guard rfl rfl rfl rfl hb13 ?_
      refine RW.off_guard rfl rfl rfl rfl hb13 ?_
      refine RW.off_guard rfl rfl rfl rfl hb13 ?_
      refine RW.off_guard rfl rfl rfl rfl hb13 ?_
      refine RW.off_guard rfl rfl rfl rfl hb13 ?_
      refine RW.op1 rfl (runs_pick_true rfl hb13 rfl) ?_
      refine RW.op1 rfl (runs_assign rfl) ?_
      refine RW.done ?_
      refine AQ.next ?_
      refine CW.cond_true rfl ?_
      refine CW.seq ?_
      -- region 4
      refine CW.region ?_
      refine RW.op1 rfl (runs_assign rfl) ?_
      refine RW.done ?_
      refine AQ.next ?_
      refine CW.ret ?_
      refine AQ.block_ret ?_
      refine AQ.past_ret ?_
      refine AQ.ret1 rfl rfl ?_
      exact ⟨by unfold mayR; rw [if_neg (by rw [hcb5]; decide), if_pos (by omega)], hsh hst⟩
    · have hb13p := hb13
      try simp only [decide_eq_true_eq, decide_eq_false_iff_not] at hb13p
      refine RW.on_guard rfl rfl rfl rfl hb13 ?_
      refine RW.op1 rfl (runs_move rfl) ?_
      refine RW.on_guard rfl rfl rfl rfl hb13 ?_
      refine RW.op1 rfl (runs_move rfl) ?_
      refine RW.on_guard rfl rfl rfl rfl hb13 ?_
      refine RW.op1 rfl (runs_nilCheck rfl) ?_
      refine RW.on_guard rfl rfl rfl rfl hb13 ?_
      first
        | refine RW.op1 rfl (runs_fieldAddr0 rfl Try.underlying59 rfl ti56 (by decide)) ?_
        | refine RW.op1 rfl (runs_fieldAddr rfl Try.underlying59 rfl ti56 (by decide)) ?_
      refine RW.on_guard rfl rfl rfl rfl hb13 ?_
      first
        | refine RW.op1 rfl (runs_load1 sc56 rfl (hst.cell_own (k := 0) rfl rfl)) ?_
        | refine RW.op1 rfl (runs_load1 sc56 rfl (hst.cell_own (k := 1) rfl rfl)) ?_
        | refine RW.op1 rfl (runs_load1 sc56 rfl (hst.cell_own (k := 2) rfl rfl)) ?_
      refine RW.on_guard rfl rfl rfl rfl hb13 ?_
      first
        | refine RW.op1 rfl (RdL.len Try.underlying56 rfl (by assumption)) ?_
        | refine RW.op1 rfl (runs_lenL Try.underlying56 rfl) ?_
        | refine RW.op1 rfl (Grow.len Try.underlying56 rfl (by assumption)) ?_
      refine RW.on_guard rfl rfl rfl rfl hb13 ?_
      refine RW.op1 rfl (runs_geq rfl rfl) ?_
      refine RW.op1 rfl (runs_pick_false rfl hb13 rfl) ?_
      refine RW.op1 rfl (runs_assign rfl) ?_
      refine RW.done ?_
      refine AQ.next ?_
      refine CW.cond rfl (fun hc10 => ?_) (fun hc10 => ?_)
      · have hcb10 := hc10
        try simp only [decide_eq_true_eq, decide_eq_false_iff_not] at hc10
        refine CW.seq ?_
        -- region 4
        refine CW.region ?_
        refine RW.op1 rfl (runs_assign rfl) ?_
        refine RW.done ?_
        refine AQ.next ?_
        refine CW.ret ?_
        refine AQ.block_ret ?_
        refine AQ.past_ret ?_
        refine AQ.ret1 rfl rfl ?_
        exact ⟨by unfold mayR; rw [if_neg (by rw [hcb5]; decide), if_pos (by omega)], hsh hst⟩
      · have hcb10 := hc10
        try simp only [decide_eq_true_eq, decide_eq_false_iff_not] at hc10
        refine CW.skip ?_
        refine AQ.block_normal ?_
        refine AQ.next ?_
        refine CW.seq ?_
        -- region 5
        refine CW.region ?_
        refine RW.op1 rfl (runs_assign rfl) ?_
        refine RW.done ?_
        refine AQ.next ?_
        refine CW.ret ?_
        refine AQ.ret1 rfl rfl ?_
        exact ⟨by unfold mayR; rw [if_neg (by rw [hcb5]; decide), if_neg (by omega)], hsh hst⟩
set_option maxRecDepth 100000 in
set_option maxHeartbeats 1000000 in
theorem kept_spec {w0 w : World} {I : Imm} {L : Own} (hst : St w0 w I L) (n : Int) :
    Calls Try.prog 43 #[.int .i64 n] w fun e w' => e = .returned (.int .i64 (keptR n)) ∧ St w0 w' I L := by
  refine enter Try.func43 rfl (N := 8) rfl rfl ?_
  simp only [List.zipIdx_cons, List.zipIdx_nil, List.map_cons, List.map_nil, Nat.zero_add, Nat.reduceAdd]
  have hle := Imm.le.refl I
  refine CW.seq ?_
  -- region 0
  refine CW.region ?_
  refine RW.op1 rfl (runs_assign rfl) ?_
  refine RW.done ?_
  refine AQ.next ?_
  refine CW.seq ?_
  refine CW.seq ?_
  -- region 1
  refine CW.region ?_
  refine RW.op1 rfl (runs_move rfl) ?_
  refine RW.done ?_
  refine AQ.next ?_
  refine CW.block ?_
  refine CW.seq ?_
  -- region 2
  refine CW.region ?_
  refine RW.op1 rfl (runs_eqI rfl rfl) ?_
  refine RW.op1 rfl (runs_assign rfl) ?_
  refine RW.done ?_
  refine AQ.next ?_
  refine CW.cond rfl (fun hc4 => ?_) (fun hc4 => ?_)
  · have hcb4 := hc4
    try simp only [decide_eq_true_eq, decide_eq_false_iff_not] at hc4
    refine CW.seq ?_
    -- region 3
    refine CW.region ?_
    refine RW.op1 rfl (runs_assign rfl) ?_
    refine RW.done ?_
    refine AQ.next ?_
    refine CW.ret ?_
    refine AQ.block_ret ?_
    refine AQ.past_ret ?_
    refine AQ.ret1 rfl rfl ?_
    exact ⟨by unfold keptR; rw [if_pos (by omega)], hst⟩
  · have hcb4 := hc4
    try simp only [decide_eq_true_eq, decide_eq_false_iff_not] at hc4
    refine CW.seq ?_
    -- region 4
    refine CW.region ?_
    refine RW.op1 rfl (runs_eqI rfl rfl) ?_
    refine RW.op1 rfl (runs_assign rfl) ?_
    refine RW.done ?_
    refine AQ.next ?_
    refine CW.cond rfl (fun hc6 => ?_) (fun hc6 => ?_)
    · have hcb6 := hc6
      try simp only [decide_eq_true_eq, decide_eq_false_iff_not] at hc6
      refine CW.seq ?_
      -- region 5
      refine CW.region ?_
      refine RW.op1 rfl (runs_assign rfl) ?_
      refine RW.done ?_
      refine AQ.next ?_
      refine CW.ret ?_
      refine AQ.block_ret ?_
      refine AQ.past_ret ?_
      refine AQ.ret1 rfl rfl ?_
      exact ⟨by unfold keptR; rw [if_neg (by omega), if_pos (by omega)], hst⟩
    · have hcb6 := hc6
      try simp only [decide_eq_true_eq, decide_eq_false_iff_not] at hc6
      refine CW.skip ?_
      refine AQ.block_normal ?_
      refine AQ.next ?_
      refine CW.seq ?_
      -- region 6
      refine CW.region ?_
      refine RW.op1 rfl (runs_assign rfl) ?_
      refine RW.done ?_
      refine AQ.next ?_
      refine CW.ret ?_
      refine AQ.ret1 rfl rfl ?_
      exact ⟨by unfold keptR; rw [if_neg (by omega), if_neg (by omega)], hst⟩
set_option maxRecDepth 100000 in
set_option maxHeartbeats 1000000 in
theorem limit_spec {w0 w : World} {I : Imm} {L Ld : Own} {d : Value} {S : DS} (hd : DiskO d S Ld) (hst : St w0 w I (Ld ++ L)) (n : Int) (hn : i64ok n) :
    Calls Try.prog 17 #[d, .int .i64 n] w fun e w' => e = .returned (.tuple #[]) ∧ ∃ Ld', St w0 w' I (Ld' ++ L) ∧ DiskO d { S with left := if n > -1 then n else -1 } Ld' := by
  obtain ⟨hb, vl, vp, Ls, Lp, rfl, hstn, hgl, hgp, hok, hsh⟩ := hd.opn hst
  clear hst
  have hst := hstn
  clear hstn
  refine enter Try.func17 rfl (N := 9) rfl rfl ?_
  simp only [List.zipIdx_cons, List.zipIdx_nil, List.map_cons, List.map_nil, Nat.zero_add, Nat.reduceAdd]
  have hle := Imm.le.refl I
  -- region 0
  refine CW.region ?_
  refine RW.op1 rfl (runs_move rfl) ?_
  refine RW.op1 rfl (runs_move rfl) ?_
  refine RW.op1 rfl (runs_max rfl rfl) ?_
  refine RW.op1 rfl (runs_nilCheck rfl) ?_
  first
    | refine RW.op1 rfl (runs_fieldAddr0 rfl Try.underlying59 rfl ti3 (by decide)) ?_
    | refine RW.op1 rfl (runs_fieldAddr rfl Try.underlying59 rfl ti3 (by decide)) ?_
  first
    | refine RW.opE0 (runs_store1P ti3 rfl rfl hst (k := 0) rfl rfl (NoFz.zero _) rfl) ?_
    | refine RW.opE0 (runs_store1P ti3 rfl rfl hst (k := 1) rfl rfl (NoFz.zero _) rfl) ?_
    | refine RW.opE0 (runs_store1P ti3 rfl rfl hst (k := 2) rfl rfl (NoFz.zero _) rfl) ?_
  rintro w hstn
  clear hst
  have hst := hstn
  clear hstn
  try simp only [List.set_cons_zero, List.set_cons_succ] at hst
  refine RW.done ?_
  refine AQ.end0 rfl ?_
  obtain ⟨Ld', h1, h2⟩ := DiskO.shut (S := { S with left := if n > -1 then n else -1 }) hst hgl hgp ⟨hok.1, hok.2.1, hok.2.2.1, by unfold i64ok at hn; dsimp only; split <;> omega⟩
  exact ⟨rfl, Ld', h1, h2⟩
end Go.Proofs.YthocicjjighbnaaX
