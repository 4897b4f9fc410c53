/- Writes, flushes, crashes: what these come to. -/
import Derived.Test.YthocicjjighbnaaT
import Derived.Test.YthocicjjighbnaaD2
namespace Go.Proofs.YthocicjjighbnaaX
set_option linter.unusedVariables false
set_option linter.unusedSimpArgs false
open Go Go.RowKit Go.Proofs

set_option maxRecDepth 100000 in
set_option maxHeartbeats 1000000 in
theorem write_spec {w0 w : World} {I : Imm} {L Ld : Own} {d : Value} {S : DS} (hd : DiskO d S Ld) (hst : St w0 w I (Ld ++ L)) (at_ : Int) {vb : Value} {b : List UInt8} (hb0 : RdB I vb b) (hpn : S.pend.length ≤ 1000000) :
    Calls Try.prog 12 #[d, .int .i64 at_, vb] w fun e w' => ∃ I' Ld', Imm.le I I' ∧ e = .returned (.int .i64 (writeR S at_ b).2) ∧ St w0 w' I' (Ld' ++ L) ∧ DiskO d (writeR S at_ b).1 Ld' := by
  refine enter Try.func12 rfl (N := 48) rfl rfl ?_
  simp only [List.zipIdx_cons, List.zipIdx_nil, List.map_cons, List.map_nil, Nat.zero_add, Nat.reduceAdd]
  have hle := Imm.le.refl I
  refine CW.seq ?_
  -- region 0
  refine CW.region ?_
  refine RW.op1 rfl (runs_assign rfl) ?_
  refine RW.done ?_
  refine AQ.next ?_
  refine CW.seq ?_
  refine CW.seq ?_
  -- region 1
  refine CW.region ?_
  refine RW.op1 rfl (runs_move rfl) ?_
  refine RW.op1 rfl (runs_move rfl) ?_
  refine RW.call rfl call36 rfl rfl (dmay_spec hd hst at_) ?_
  rintro e w ⟨rfl, hstn⟩
  clear hst
  have hst := hstn
  clear hstn
  refine ⟨_, rfl, ?_⟩
  refine RW.op1 rfl (runs_assign rfl) ?_
  refine RW.done ?_
  refine AQ.next ?_
  refine CW.seq ?_
  -- region 2
  refine CW.region ?_
  refine RW.op1 rfl (runs_move rfl) ?_
  refine RW.op1 rfl (runs_neI rfl rfl) ?_
  refine RW.done ?_
  refine AQ.next ?_
  refine CW.cond rfl (fun hc12 => ?_) (fun hc12 => ?_)
  · have hcb12 := hc12
    try simp only [decide_eq_true_eq, decide_eq_false_iff_not] at hc12
    skip
    refine CW.seq ?_
    -- region 3
    refine CW.region ?_
    refine RW.op1 rfl (runs_move rfl) ?_
    refine RW.op1 rfl (runs_assign rfl) ?_
    refine RW.done ?_
    refine AQ.next ?_
    refine CW.ret ?_
    refine AQ.past_ret ?_
    refine AQ.ret1 rfl rfl ?_
    have hw : writeR S at_ b = (S, mayR S at_) := by unfold writeR; rw [if_pos (by omega)]
    rw [hw]
    exact ⟨I, _, Imm.le.refl I, rfl, hst, hd⟩
  · have hcb12 := hc12
    try simp only [decide_eq_true_eq, decide_eq_false_iff_not] at hc12
    have hm0 : mayR S at_ = 0 := by omega
    obtain ⟨hdn, ha0, ha1⟩ := mayR_ok hm0
    have hd0 := hd
    obtain ⟨hb, vl, vp, Ls, Lp, rfl, hstn, hgl, hgp, hok, hsh⟩ := hd.opn hst
    clear hst
    have hst := hstn
    clear hstn
    have hlo := hok.2.2.2
    refine CW.skip ?_
    refine AQ.next ?_
    refine CW.seq ?_
    refine CW.seq ?_
    -- region 4
    refine CW.region ?_
    refine RW.op1 rfl (runs_move rfl) ?_
    refine RW.op1 rfl (RdL.len Try.underlying33 rfl hb0) ?_
    refine RW.op1 rfl (runs_neI rfl rfl) ?_
    refine RW.done ?_
    refine AQ.next ?_
    refine CW.cond rfl (fun hc16 => ?_) (fun hc16 => ?_)
    · have hcb16 := hc16
      try simp only [decide_eq_true_eq, decide_eq_false_iff_not] at hc16
      skip
      refine CW.seq ?_
      -- region 5
      refine CW.region ?_
      refine RW.op1 rfl (runs_assign rfl) ?_
      refine RW.done ?_
      refine AQ.next ?_
      refine CW.ret ?_
      refine AQ.past_ret ?_
      refine AQ.ret1 rfl rfl ?_
      have hw : writeR S at_ b = (S, 1) := by unfold writeR; rw [if_neg (by omega), if_pos (by omega)]
      rw [hw]
      exact ⟨I, _, Imm.le.refl I, rfl, hsh hst, hd0⟩
    · have hcb16 := hc16
      try simp only [decide_eq_true_eq, decide_eq_false_iff_not] at hc16
      have hbl : b.length = 32 := by omega
      refine CW.skip ?_
      refine AQ.next ?_
      refine CW.seq ?_
      refine CW.seq ?_
      -- region 6
      refine CW.region ?_
      refine RW.op1 rfl (runs_move rfl) ?_
      refine RW.op1 rfl (runs_nilCheck rfl) ?_
      first
        | refine RW.op1 rfl (runs_fieldAddr0 rfl Try.underlying59 rfl ti3 (by decide)) ?_
        | refine RW.op1 rfl (runs_fieldAddr rfl Try.underlying59 rfl ti3 (by decide)) ?_
      first
        | refine RW.op1 rfl (runs_load1 sc3 rfl (hst.cell_own (k := 0) rfl rfl)) ?_
        | refine RW.op1 rfl (runs_load1 sc3 rfl (hst.cell_own (k := 1) rfl rfl)) ?_
        | refine RW.op1 rfl (runs_load1 sc3 rfl (hst.cell_own (k := 2) rfl rfl)) ?_
      refine RW.op1 rfl (runs_eqI rfl rfl) ?_
      refine RW.done ?_
      refine AQ.next ?_
      refine CW.cond rfl (fun hc21 => ?_) (fun hc21 => ?_)
      · have hcb21 := hc21
        try simp only [decide_eq_true_eq, decide_eq_false_iff_not] at hc21
        refine CW.seq ?_
        -- region 7
        refine CW.region ?_
        refine RW.op1 rfl (runs_move rfl) ?_
        refine RW.op1 rfl (runs_nilCheck rfl) ?_
        first
          | refine RW.op1 rfl (runs_fieldAddr0 rfl Try.underlying59 rfl ti4 (by decide)) ?_
          | refine RW.op1 rfl (runs_fieldAddr rfl Try.underlying59 rfl ti4 (by decide)) ?_
        first
          | refine RW.opE0 (runs_store1P ti4 rfl rfl hst (k := 0) rfl rfl (NoFz.zero _) rfl) ?_
          | refine RW.opE0 (runs_store1P ti4 rfl rfl hst (k := 1) rfl rfl (NoFz.zero _) rfl) ?_
          | refine RW.opE0 (runs_store1P ti4 rfl rfl hst (k := 2) rfl rfl (NoFz.zero _) rfl) ?_
        rintro w hstn
        clear hst
        have hst := hstn
        clear hstn
        try simp only [List.set_cons_zero, List.set_cons_succ] at hst
        refine RW.done ?_
        refine AQ.next ?_
        refine CW.seq ?_
        -- region 8
        refine CW.region ?_
        refine RW.op1 rfl (runs_assign rfl) ?_
        refine RW.done ?_
        refine AQ.next ?_
        refine CW.ret ?_
        refine AQ.past_ret ?_
        refine AQ.ret1 rfl rfl ?_
        have hw : writeR S at_ b = ({ S with down := true }, 8) := by unfold writeR; rw [if_neg (by omega), if_neg (by omega), if_pos (by omega)]
        rw [hw]
        obtain ⟨Ld', h1, h2⟩ := DiskO.shut (S := { S with down := true }) hst hgl hgp hok
        exact ⟨I, Ld', Imm.le.refl I, rfl, h1, h2⟩
      · have hcb21 := hc21
        try simp only [decide_eq_true_eq, decide_eq_false_iff_not] at hc21
        refine CW.skip ?_
        refine AQ.next ?_
        refine CW.seq ?_
        -- region 9
        refine CW.region ?_
        refine RW.op1 rfl (runs_move rfl) ?_
        refine RW.op1 rfl (runs_move rfl) ?_
        refine RW.op1 rfl (runs_nilCheck rfl) ?_
        first
          | refine RW.op1 rfl (runs_fieldAddr0 rfl Try.underlying59 rfl ti3 (by decide)) ?_
          | refine RW.op1 rfl (runs_fieldAddr rfl Try.underlying59 rfl ti3 (by decide)) ?_
        first
          | refine RW.op1 rfl (runs_load1 sc3 rfl (hst.cell_own (k := 0) rfl rfl)) ?_
          | refine RW.op1 rfl (runs_load1 sc3 rfl (hst.cell_own (k := 1) rfl rfl)) ?_
          | refine RW.op1 rfl (runs_load1 sc3 rfl (hst.cell_own (k := 2) rfl rfl)) ?_
        refine RW.op1 rfl (runs_sub rfl rfl (by omega)) ?_
        refine RW.op1 rfl (runs_max rfl rfl) ?_
        refine RW.op1 rfl (runs_nilCheck rfl) ?_
        first
          | refine RW.op1 rfl (runs_fieldAddr0 rfl Try.underlying59 rfl ti3 (by decide)) ?_
          | refine RW.op1 rfl (runs_fieldAddr rfl Try.underlying59 rfl ti3 (by decide)) ?_
        first
          | refine RW.opE0 (runs_store1P ti3 rfl rfl hst (k := 0) rfl rfl (NoFz.zero _) rfl) ?_
          | refine RW.opE0 (runs_store1P ti3 rfl rfl hst (k := 1) rfl rfl (NoFz.zero _) rfl) ?_
          | refine RW.opE0 (runs_store1P ti3 rfl rfl hst (k := 2) rfl rfl (NoFz.zero _) rfl) ?_
        rintro w hstn
        clear hst
        have hst := hstn
        clear hstn
        try simp only [List.set_cons_zero, List.set_cons_succ] at hst
        refine RW.done ?_
        refine AQ.next ?_
        refine CW.seq ?_
        -- region 10
        refine CW.draw (fun _ => True) (.q 0 (.q 1 (.q 2 (.q 3 (.q 5 (.q 6 (.q 7 (.fork (.l 4 (.l 8 (.q 9 (.l 10 (.l 11 (.q 12 (.q 13 (.l 14 .nil)))))))) (.l 8 (.q 9 (.fork (.l 4 (.l 10 (.l 11 (.q 12 (.q 13 (.l 14 .nil)))))) (.l 10 (.l 4 (.l 11 (.q 12 (.q 13 (.l 14 .nil))))))))))))))))) follows (by kernel_rfl) trivial ?_
        replace hst := hst.draw
        refine DRW.q rfl rfl (fun w' hF => runs_move rfl) ?_
        refine DRW.q rfl rfl (fun w' hF => runs_move rfl) ?_
        refine DRW.q rfl rfl (fun w' hF => runs_nilCheck rfl) ?_
        first
          | refine DRW.q rfl rfl (fun w' hF => runs_fieldAddr0 rfl Try.underlying59 rfl ti57 (by decide)) ?_
          | refine DRW.q rfl rfl (fun w' hF => runs_fieldAddr rfl Try.underlying59 rfl ti57 (by decide)) ?_
        refine DRW.q rfl rfl (fun w' hF => runs_move rfl) ?_
        refine DRW.q rfl rfl (fun w' hF => runs_move rfl) ?_
        refine DRW.q rfl rfl (fun w' hF => runs_arrayAt Try.underlying72 rfl hb0 (by omega) (by decide) (by omega)) ?_
        refine DRW.fork ?_ ?_
        · first
            | refine DRW.op1 rfl rfl (runs_load1 sc57 rfl (hst.cell_own (k := 0) rfl rfl)) trivial ?_
            | refine DRW.op1 rfl rfl (runs_load1 sc57 rfl (hst.cell_own (k := 1) rfl rfl)) trivial ?_
            | refine DRW.op1 rfl rfl (runs_load1 sc57 rfl (hst.cell_own (k := 2) rfl rfl)) trivial ?_
          refine DRW.op1 rfl rfl (RdL.loadAt (row := b.map b8) ag72 ti72 rfl hb0 hst (by rw [List.length_map]; exact hbl) (fun j u hj => by rw [Nat.zero_add]; exact hj)) trivial ?_
          refine DRW.q rfl rfl (fun w' hF => runs_buildF (cells := wrow (at_, b)) bz74 rfl rfl rfl rfl (bfill_w rfl rfl hbl)) ?_
          refine DRW.opE rfl rfl (runs_litF (xs := [.agg (wrow (at_, b)).toArray]) Try.underlying57 ti74 (by decide) rfl rfl rfl (by simp [vcells, wrow, hbl]) (by simp only [List.flatMap_cons, List.flatMap_nil, List.append_nil, vcells]; exact wrow_all _) hst (by decide)) ?_
          rintro u4 w ⟨Lv4, hstn, hg4⟩
          clear hst
          have hst := hstn
          clear hstn
          refine ⟨trivial, ?_⟩
          obtain ⟨J4, hJ4, hstn, h4⟩ := Grow.freeze hg4 hst
          clear hst
          have hst := hstn
          clear hstn
          replace hle := hle.trans hJ4
          try simp only [List.nil_append] at h4
          replace h4 : RdL J4 33 u4 1 (wrow (at_, b)) := by
            have e : [Value.agg (wrow (at_, b)).toArray].flatMap vcells = wrow (at_, b) := by simp [vcells]
            rw [e] at h4
            exact h4
          have hR := h4
          refine DRW.opE rfl rfl (runs_appendR Try.underlying57 ti74 rfl (by decide) rfl rfl (hst.perm (perm_in _ Ls Lp L)) hgp hR (by omega) (by unfold maxLen; omega)) ?_
          rintro u5 w ⟨Lv5, hstn, hg5⟩
          clear hst
          have hst := hstn
          clear hstn
          refine ⟨trivial, ?_⟩
          have hgN := hg5
          replace hst := hst.perm (perm_in _ Ls Lv5 L).symm
          refine DRW.q rfl rfl (fun w' hF => runs_nilCheck rfl) ?_
          first
            | refine DRW.q rfl rfl (fun w' hF => runs_fieldAddr0 rfl Try.underlying59 rfl ti57 (by decide)) ?_
            | refine DRW.q rfl rfl (fun w' hF => runs_fieldAddr rfl Try.underlying59 rfl ti57 (by decide)) ?_
          refine DRW.opE0 rfl (runs_store1P ti57 rfl rfl hst (k := 0) rfl rfl (NoFz.zero _) (Grow.one hgN)) ?_
          rintro w hstn
          clear hst
          have hst := hstn
          clear hstn
          try simp only [List.set_cons_zero, List.set_cons_succ] at hst
          refine ⟨trivial, ?_⟩
          refine DRW.done ?_
          refine AQ.next ?_
          refine CW.seq ?_
          -- region 11
          refine CW.region ?_
          refine RW.op1 rfl (runs_assign rfl) ?_
          refine RW.done ?_
          refine AQ.next ?_
          refine CW.ret ?_
          refine AQ.ret1 rfl rfl ?_
          have hw : writeR S at_ b = ({ S with left := if S.left - 1 > -1 then S.left - 1 else -1, pend := S.pend ++ [(at_, b)] }, 0) := by unfold writeR; rw [if_neg (by omega), if_neg (by omega), if_neg (by omega)]
          rw [hw]
          obtain ⟨Ld', h1, h2⟩ := DiskO.shut (S := { S with left := if S.left - 1 > -1 then S.left - 1 else -1, pend := S.pend ++ [(at_, b)] }) hst hgl (by dsimp only; rw [List.flatMap_append, List.length_append]; simpa using hgN) ⟨hok.1, hok.2.1, by
            intro p hp
            rcases List.mem_append.1 hp with h | h
            · exact hok.2.2.1 p h
            · rw [List.mem_singleton.1 h]; exact ⟨hbl, ha0, ha1⟩, by dsimp only; split <;> omega⟩
          exact ⟨_, Ld', hle, rfl, h1, h2⟩
        refine DRW.op1 rfl rfl (RdL.loadAt (row := b.map b8) ag72 ti72 rfl hb0 hst (by rw [List.length_map]; exact hbl) (fun j u hj => by rw [Nat.zero_add]; exact hj)) trivial ?_
        refine DRW.q rfl rfl (fun w' hF => runs_buildF (cells := wrow (at_, b)) bz74 rfl rfl rfl rfl (bfill_w rfl rfl hbl)) ?_
        refine DRW.fork ?_ ?_
        · first
            | refine DRW.op1 rfl rfl (runs_load1 sc57 rfl (hst.cell_own (k := 0) rfl rfl)) trivial ?_
            | refine DRW.op1 rfl rfl (runs_load1 sc57 rfl (hst.cell_own (k := 1) rfl rfl)) trivial ?_
            | refine DRW.op1 rfl rfl (runs_load1 sc57 rfl (hst.cell_own (k := 2) rfl rfl)) trivial ?_
          refine DRW.opE rfl rfl (runs_litF (xs := [.agg (wrow (at_, b)).toArray]) Try.underlying57 ti74 (by decide) rfl rfl rfl (by simp [vcells, wrow, hbl]) (by simp only [List.flatMap_cons, List.flatMap_nil, List.append_nil, vcells]; exact wrow_all _) hst (by decide)) ?_
          rintro u7 w ⟨Lv7, hstn, hg7⟩
          clear hst
          have hst := hstn
          clear hstn
          refine ⟨trivial, ?_⟩
          obtain ⟨J7, hJ7, hstn, h7⟩ := Grow.freeze hg7 hst
          clear hst
          have hst := hstn
          clear hstn
          replace hle := hle.trans hJ7
          try simp only [List.nil_append] at h7
          replace h7 : RdL J7 33 u7 1 (wrow (at_, b)) := by
            have e : [Value.agg (wrow (at_, b)).toArray].flatMap vcells = wrow (at_, b) := by simp [vcells]
            rw [e] at h7
            exact h7
          have hR := h7
          refine DRW.opE rfl rfl (runs_appendR Try.underlying57 ti74 rfl (by decide) rfl rfl (hst.perm (perm_in _ Ls Lp L)) hgp hR (by omega) (by unfold maxLen; omega)) ?_
          rintro u8 w ⟨Lv8, hstn, hg8⟩
          clear hst
          have hst := hstn
          clear hstn
          refine ⟨trivial, ?_⟩
          have hgN := hg8
          replace hst := hst.perm (perm_in _ Ls Lv8 L).symm
          refine DRW.q rfl rfl (fun w' hF => runs_nilCheck rfl) ?_
          first
            | refine DRW.q rfl rfl (fun w' hF => runs_fieldAddr0 rfl Try.underlying59 rfl ti57 (by decide)) ?_
            | refine DRW.q rfl rfl (fun w' hF => runs_fieldAddr rfl Try.underlying59 rfl ti57 (by decide)) ?_
          refine DRW.opE0 rfl (runs_store1P ti57 rfl rfl hst (k := 0) rfl rfl (NoFz.zero _) (Grow.one hgN)) ?_
          rintro w hstn
          clear hst
          have hst := hstn
          clear hstn
          try simp only [List.set_cons_zero, List.set_cons_succ] at hst
          refine ⟨trivial, ?_⟩
          refine DRW.done ?_
          refine AQ.next ?_
          refine CW.seq ?_
          -- region 11
          refine CW.region ?_
          refine RW.op1 rfl (runs_assign rfl) ?_
          refine RW.done ?_
          refine AQ.next ?_
          refine CW.ret ?_
          refine AQ.ret1 rfl rfl ?_
          have hw : writeR S at_ b = ({ S with left := if S.left - 1 > -1 then S.left - 1 else -1, pend := S.pend ++ [(at_, b)] }, 0) := by unfold writeR; rw [if_neg (by omega), if_neg (by omega), if_neg (by omega)]
          rw [hw]
          obtain ⟨Ld', h1, h2⟩ := DiskO.shut (S := { S with left := if S.left - 1 > -1 then S.left - 1 else -1, pend := S.pend ++ [(at_, b)] }) hst hgl (by dsimp only; rw [List.flatMap_append, List.length_append]; simpa using hgN) ⟨hok.1, hok.2.1, by
            intro p hp
            rcases List.mem_append.1 hp with h | h
            · exact hok.2.2.1 p h
            · rw [List.mem_singleton.1 h]; exact ⟨hbl, ha0, ha1⟩, by dsimp only; split <;> omega⟩
          exact ⟨_, Ld', hle, rfl, h1, h2⟩
        refine DRW.opE rfl rfl (runs_litF (xs := [.agg (wrow (at_, b)).toArray]) Try.underlying57 ti74 (by decide) rfl rfl rfl (by simp [vcells, wrow, hbl]) (by simp only [List.flatMap_cons, List.flatMap_nil, List.append_nil, vcells]; exact wrow_all _) hst (by decide)) ?_
        rintro u10 w ⟨Lv10, hstn, hg10⟩
        clear hst
        have hst := hstn
        clear hstn
        refine ⟨trivial, ?_⟩
        obtain ⟨J10, hJ10, hstn, h10⟩ := Grow.freeze hg10 hst
        clear hst
        have hst := hstn
        clear hstn
        replace hle := hle.trans hJ10
        try simp only [List.nil_append] at h10
        replace h10 : RdL J10 33 u10 1 (wrow (at_, b)) := by
          have e : [Value.agg (wrow (at_, b)).toArray].flatMap vcells = wrow (at_, b) := by simp [vcells]
          rw [e] at h10
          exact h10
        have hR := h10
        first
          | refine DRW.op1 rfl rfl (runs_load1 sc57 rfl (hst.cell_own (k := 0) rfl rfl)) trivial ?_
          | refine DRW.op1 rfl rfl (runs_load1 sc57 rfl (hst.cell_own (k := 1) rfl rfl)) trivial ?_
          | refine DRW.op1 rfl rfl (runs_load1 sc57 rfl (hst.cell_own (k := 2) rfl rfl)) trivial ?_
        refine DRW.opE rfl rfl (runs_appendR Try.underlying57 ti74 rfl (by decide) rfl rfl (hst.perm (perm_in _ Ls Lp L)) hgp hR (by omega) (by unfold maxLen; omega)) ?_
        rintro u11 w ⟨Lv11, hstn, hg11⟩
        clear hst
        have hst := hstn
        clear hstn
        refine ⟨trivial, ?_⟩
        have hgN := hg11
        replace hst := hst.perm (perm_in _ Ls Lv11 L).symm
        refine DRW.q rfl rfl (fun w' hF => runs_nilCheck rfl) ?_
        first
          | refine DRW.q rfl rfl (fun w' hF => runs_fieldAddr0 rfl Try.underlying59 rfl ti57 (by decide)) ?_
          | refine DRW.q rfl rfl (fun w' hF => runs_fieldAddr rfl Try.underlying59 rfl ti57 (by decide)) ?_
        refine DRW.opE0 rfl (runs_store1P ti57 rfl rfl hst (k := 0) rfl rfl (NoFz.zero _) (Grow.one hgN)) ?_
        rintro w hstn
        clear hst
        have hst := hstn
        clear hstn
        try simp only [List.set_cons_zero, List.set_cons_succ] at hst
        refine ⟨trivial, ?_⟩
        refine DRW.done ?_
        refine AQ.next ?_
        refine CW.seq ?_
        -- region 11
        refine CW.region ?_
        refine RW.op1 rfl (runs_assign rfl) ?_
        refine RW.done ?_
        refine AQ.next ?_
        refine CW.ret ?_
        refine AQ.ret1 rfl rfl ?_
        have hw : writeR S at_ b = ({ S with left := if S.left - 1 > -1 then S.left - 1 else -1, pend := S.pend ++ [(at_, b)] }, 0) := by unfold writeR; rw [if_neg (by omega), if_neg (by omega), if_neg (by omega)]
        rw [hw]
        obtain ⟨Ld', h1, h2⟩ := DiskO.shut (S := { S with left := if S.left - 1 > -1 then S.left - 1 else -1, pend := S.pend ++ [(at_, b)] }) hst hgl (by dsimp only; rw [List.flatMap_append, List.length_append]; simpa using hgN) ⟨hok.1, hok.2.1, by
          intro p hp
          rcases List.mem_append.1 hp with h | h
          · exact hok.2.2.1 p h
          · rw [List.mem_singleton.1 h]; exact ⟨hbl, ha0, ha1⟩, by dsimp only; split <;> omega⟩
        exact ⟨_, Ld', hle, rfl, h1, h2⟩
end Go.Proofs.YthocicjjighbnaaX
