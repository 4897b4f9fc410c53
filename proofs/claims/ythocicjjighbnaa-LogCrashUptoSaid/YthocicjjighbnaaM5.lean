/- What opening a sector comes to, by the program and by the document; the chapter's example. -/
import Derived.Test.YthocicjjighbnaaT
import Derived.Test.YthocicjjighbnaaM4
namespace Go.Proofs.YthocicjjighbnaaX
set_option linter.unusedVariables false
set_option linter.unusedSimpArgs false
open Go Go.RowKit Go.Proofs

attribute [local simp] two_length three_length
set_option maxRecDepth 100000 in
set_option maxHeartbeats 1000000 in
theorem open_spec {w0 w : World} {I : Imm} {L : Own} (hst : St w0 w I L) {v : Value} {s : List UInt8} (hv : RdB I v s) (hb : s.length ≤ 140737488355328) :
    Calls Try.prog 41 #[v] w fun r w' => ∃ I' v', Imm.le I I' ∧ r = .returned (.tuple #[.agg #[.int .i64 (openR s).e, .int .i64 (openR s).q], .int .i64 (openR s).p, .int .i64 (openR s).n, v', .int .i64 (openR s).err]) ∧ St w0 w' I' L ∧ RdB I' v' (openR s).b := by
  refine enter Try.func41 rfl (N := 84) rfl rfl ?_
  simp only [List.zipIdx_cons, List.zipIdx_nil, List.map_cons, List.map_nil, Nat.zero_add, Nat.reduceAdd]
  have hle := Imm.le.refl I
  refine CW.seq ?_
  -- region 0
  refine CW.region ?_
  refine RW.opE rfl (runs_alloc ti38 hst) ?_
  rintro _ w ⟨b1, rfl, hstn⟩
  clear hst
  have hst := hstn
  clear hstn
  refine RW.op1 rfl (runs_assign rfl) ?_
  refine RW.op1 rfl (runs_assign rfl) ?_
  refine RW.op1 rfl (runs_assign rfl) ?_
  refine RW.op1 rfl (runs_assign rfl) ?_
  refine RW.done ?_
  refine AQ.next ?_
  refine CW.seq ?_
  refine CW.seq ?_
  -- region 1
  refine CW.region ?_
  refine RW.op1 rfl (runs_move rfl) ?_
  first
    | refine RW.op1 rfl (RdL.len Try.underlying33 rfl (by assumption)) ?_
    | refine RW.op1 rfl (runs_lenL Try.underlying33 rfl) ?_
    | refine RW.op1 rfl (Grow.len Try.underlying33 rfl (by assumption)) ?_
  refine RW.op1 rfl (runs_neI rfl rfl) ?_
  refine RW.op1 rfl (runs_move rfl) ?_
  refine RW.split (t := 12) rfl (fun hb12 => ?_) (fun hb12 => ?_)
  · have hb12p := hb12
    try simp only [decide_eq_true_eq, decide_eq_false_iff_not] at hb12p
    skip
    refine RW.off_guard rfl rfl rfl rfl hb12 ?_
    refine RW.off_guard rfl rfl rfl rfl hb12 ?_
    refine RW.off_guard rfl rfl rfl rfl hb12 ?_
    refine RW.off_guard rfl rfl rfl rfl hb12 ?_
    refine RW.off_guard rfl rfl rfl rfl hb12 ?_
    refine RW.op1 rfl (runs_pick_true rfl hb12 rfl) ?_
    refine RW.done ?_
    refine AQ.next ?_
    refine CW.cond_true rfl ?_
    refine CW.seq ?_
    -- region 2
    refine CW.region ?_
    refine RW.op1 rfl (runs_buildF (cells := [_, _]) bz38 rfl rfl rfl rfl rfl) ?_
    first
      | refine RW.opE0 (runs_storeW ti38 rfl rfl hst (k := 0) rfl rfl rfl (NoFz.zero _) rfl) ?_
      | refine RW.opE0 (runs_storeP ti38 rfl rfl hst (k := 0) rfl rfl rfl (NoFz.zero _) rfl) ?_
      | refine RW.opE0 (runs_storeW ti38 rfl rfl hst (k := 1) rfl rfl rfl (NoFz.zero _) rfl) ?_
      | refine RW.opE0 (runs_storeP ti38 rfl rfl hst (k := 1) rfl rfl rfl (NoFz.zero _) rfl) ?_
      | refine RW.opE0 (runs_storeW ti38 rfl rfl hst (k := 2) rfl rfl rfl (NoFz.zero _) rfl) ?_
      | refine RW.opE0 (runs_storeP ti38 rfl rfl hst (k := 2) rfl rfl rfl (NoFz.zero _) rfl) ?_
    rintro w hstn
    clear hst
    have hst := hstn
    clear hstn
    try simp only [List.set_cons_zero, List.set_cons_succ] at hst
    refine RW.op1 rfl (runs_assign rfl) ?_
    refine RW.op1 rfl (runs_assign rfl) ?_
    refine RW.op1 rfl (runs_assign rfl) ?_
    refine RW.op1 rfl (runs_assign rfl) ?_
    refine RW.done ?_
    refine AQ.next ?_
    refine CW.ret ?_
    refine AQ.past_ret ?_
    refine AQ.retL (rs := [.cell 2 38, .tmp 3, .tmp 4, .tmp 5, .tmp 6]) (vs := [_, _, _, _, _]) rfl ⟨⟨_, rfl, hst.loadN (vs := [_, _]) (k := 0) ag38 ti38 rfl rfl rfl⟩, rfl, rfl, rfl, rfl, trivial⟩ (by simp) ?_
    rw [openR_bad (openOk_len (by omega))]
    exact ⟨_, _, hle, rfl, St.drop1 (L := L) hst, RdL.nil 1⟩
  · have hb12p := hb12
    try simp only [decide_eq_true_eq, decide_eq_false_iff_not] at hb12p
    have hlen : s.length = 32 := by omega
    refine RW.on_guard rfl rfl rfl rfl hb12 ?_
    refine RW.op1 rfl (runs_move rfl) ?_
    refine RW.on_guard rfl rfl rfl rfl hb12 ?_
    first
      | refine RW.op1 rfl (RdL.indexAddr Try.underlying33 ti5 (by decide) rfl rfl (by assumption) (by omega)) ?_
      | refine RW.op1 rfl (runs_indexAddr0 Try.underlying33 ti5 rfl rfl (by omega)) ?_
    refine RW.on_guard rfl rfl rfl rfl hb12 ?_
    first
      | refine RW.op1 rfl (runs_load1 sc5 rfl (hst.cell_imm (RdB.at (by assumption) (by omega) (by omega)))) ?_
      | refine RW.op1 rfl (runs_load1 sc5 rfl (hst.cell_own (k := 0) rfl rfl)) ?_
      | refine RW.op1 rfl (runs_load1 sc5 rfl (hst.cell_own (k := 1) rfl rfl)) ?_
      | refine RW.op1 rfl (runs_load1 sc5 rfl (hst.cell_own (k := 2) rfl rfl)) ?_
    refine RW.on_guard rfl rfl rfl rfl hb12 ?_
    first
      | refine RW.op1 rfl (runs_conv64 (by rw [Try.underlying5]; rfl) Try.underlying3 rfl (bat_ok _ _)) ?_
      | refine RW.op1 rfl (runs_conv64 (by rw [Try.underlying5]; rfl) Try.underlying3 rfl (byte_ok _)) ?_
      | refine RW.op1 rfl (runs_conv64 (by rw [Try.underlying5]; rfl) Try.underlying3 rfl (by omega)) ?_
    refine RW.on_guard rfl rfl rfl rfl hb12 ?_
    refine RW.op1 rfl (runs_gtr rfl rfl) ?_
    refine RW.op1 rfl (runs_pick_false rfl hb12 rfl) ?_
    refine RW.done ?_
    refine AQ.next ?_
    refine CW.cond rfl (fun hc18 => ?_) (fun hc18 => ?_)
    · have hcb18 := hc18
      try simp only [decide_eq_true_eq, decide_eq_false_iff_not] at hc18
      refine CW.seq ?_
      -- region 2
      refine CW.region ?_
      refine RW.op1 rfl (runs_buildF (cells := [_, _]) bz38 rfl rfl rfl rfl rfl) ?_
      first
        | refine RW.opE0 (runs_storeW ti38 rfl rfl hst (k := 0) rfl rfl rfl (NoFz.zero _) rfl) ?_
        | refine RW.opE0 (runs_storeP ti38 rfl rfl hst (k := 0) rfl rfl rfl (NoFz.zero _) rfl) ?_
        | refine RW.opE0 (runs_storeW ti38 rfl rfl hst (k := 1) rfl rfl rfl (NoFz.zero _) rfl) ?_
        | refine RW.opE0 (runs_storeP ti38 rfl rfl hst (k := 1) rfl rfl rfl (NoFz.zero _) rfl) ?_
        | refine RW.opE0 (runs_storeW ti38 rfl rfl hst (k := 2) rfl rfl rfl (NoFz.zero _) rfl) ?_
        | refine RW.opE0 (runs_storeP ti38 rfl rfl hst (k := 2) rfl rfl rfl (NoFz.zero _) rfl) ?_
      rintro w hstn
      clear hst
      have hst := hstn
      clear hstn
      try simp only [List.set_cons_zero, List.set_cons_succ] at hst
      refine RW.op1 rfl (runs_assign rfl) ?_
      refine RW.op1 rfl (runs_assign rfl) ?_
      refine RW.op1 rfl (runs_assign rfl) ?_
      refine RW.op1 rfl (runs_assign rfl) ?_
      refine RW.done ?_
      refine AQ.next ?_
      refine CW.ret ?_
      refine AQ.past_ret ?_
      refine AQ.retL (rs := [.cell 2 38, .tmp 3, .tmp 4, .tmp 5, .tmp 6]) (vs := [_, _, _, _, _]) rfl ⟨⟨_, rfl, hst.loadN (vs := [_, _]) (k := 0) ag38 ti38 rfl rfl rfl⟩, rfl, rfl, rfl, rfl, trivial⟩ (by simp) ?_
      rw [openR_bad (openOk_long hc18)]
      exact ⟨_, _, hle, rfl, St.drop1 (L := L) hst, RdL.nil 1⟩
    · have hcb18 := hc18
      try simp only [decide_eq_true_eq, decide_eq_false_iff_not] at hc18
      refine CW.skip ?_
      refine AQ.next ?_
      refine CW.seq ?_
      -- region 3
      refine CW.draw (FSt w0 I L) (.q 0 (.q 1 (.q 2 (.q 3 (.q 4 (.q 5 (.q 6 (.q 7 (.q 8 (.q 9 (.q 10 (.q 11 (.q 12 (.q 13 (.q 14 (.q 15 (.q 16 (.q 17 (.q 18 (.q 19 (.q 20 (.q 21 (.q 22 (.q 23 (.q 24 (.q 25 (.q 26 (.l 27 .nil)))))))))))))))))))))))))))) follows (by kernel_rfl) ⟨_, Imm.le.refl _, hst.draw.drop1⟩ ?_
      replace hst := hst.draw
      refine DRW.q rfl rfl (fun w' hF => runs_move rfl) ?_
      first
        | refine DRW.q rfl rfl (fun w' hF => RdL.indexAddr Try.underlying33 ti5 (by decide) rfl rfl (by assumption) (by omega)) ?_
        | refine DRW.q rfl rfl (fun w' hF => runs_indexAddr0 Try.underlying33 ti5 rfl rfl (by omega)) ?_
      first
        | refine DRW.q rfl rfl (FSt.load1 sc5 rfl (RdB.at (by assumption) (by omega) (by omega))) ?_
        | refine DRW.q rfl rfl (FSt.load1_own sc5 rfl (k := 0) rfl rfl) ?_
        | refine DRW.q rfl rfl (FSt.load1_own sc5 rfl (k := 1) rfl rfl) ?_
        | refine DRW.q rfl rfl (FSt.load1_own sc5 rfl (k := 2) rfl rfl) ?_
      first
        | refine DRW.q rfl rfl (fun w' hF => runs_conv64 (by rw [Try.underlying5]; rfl) Try.underlying3 rfl (bat_ok _ _)) ?_
        | refine DRW.q rfl rfl (fun w' hF => runs_conv64 (by rw [Try.underlying5]; rfl) Try.underlying3 rfl (byte_ok _)) ?_
        | refine DRW.q rfl rfl (fun w' hF => runs_conv64 (by rw [Try.underlying5]; rfl) Try.underlying3 rfl (by omega)) ?_
      refine DRW.q rfl rfl (fun w' hF => runs_shlBat (n := 8) rfl rfl (by decide)) ?_
      refine DRW.q rfl rfl (fun w' hF => runs_move rfl) ?_
      first
        | refine DRW.q rfl rfl (fun w' hF => RdL.indexAddr Try.underlying33 ti5 (by decide) rfl rfl (by assumption) (by omega)) ?_
        | refine DRW.q rfl rfl (fun w' hF => runs_indexAddr0 Try.underlying33 ti5 rfl rfl (by omega)) ?_
      first
        | refine DRW.q rfl rfl (FSt.load1 sc5 rfl (RdB.at (by assumption) (by omega) (by omega))) ?_
        | refine DRW.q rfl rfl (FSt.load1_own sc5 rfl (k := 0) rfl rfl) ?_
        | refine DRW.q rfl rfl (FSt.load1_own sc5 rfl (k := 1) rfl rfl) ?_
        | refine DRW.q rfl rfl (FSt.load1_own sc5 rfl (k := 2) rfl rfl) ?_
      first
        | refine DRW.q rfl rfl (fun w' hF => runs_conv64 (by rw [Try.underlying5]; rfl) Try.underlying3 rfl (bat_ok _ _)) ?_
        | refine DRW.q rfl rfl (fun w' hF => runs_conv64 (by rw [Try.underlying5]; rfl) Try.underlying3 rfl (byte_ok _)) ?_
        | refine DRW.q rfl rfl (fun w' hF => runs_conv64 (by rw [Try.underlying5]; rfl) Try.underlying3 rfl (by omega)) ?_
      refine DRW.q rfl rfl (fun w' hF => runs_or2 rfl rfl) ?_
      refine DRW.q rfl rfl (fun w' hF => runs_move rfl) ?_
      first
        | refine DRW.q rfl rfl (fun w' hF => RdL.indexAddr Try.underlying33 ti5 (by decide) rfl rfl (by assumption) (by omega)) ?_
        | refine DRW.q rfl rfl (fun w' hF => runs_indexAddr0 Try.underlying33 ti5 rfl rfl (by omega)) ?_
      first
        | refine DRW.q rfl rfl (FSt.load1 sc5 rfl (RdB.at (by assumption) (by omega) (by omega))) ?_
        | refine DRW.q rfl rfl (FSt.load1_own sc5 rfl (k := 0) rfl rfl) ?_
        | refine DRW.q rfl rfl (FSt.load1_own sc5 rfl (k := 1) rfl rfl) ?_
        | refine DRW.q rfl rfl (FSt.load1_own sc5 rfl (k := 2) rfl rfl) ?_
      first
        | refine DRW.q rfl rfl (fun w' hF => runs_conv64 (by rw [Try.underlying5]; rfl) Try.underlying3 rfl (bat_ok _ _)) ?_
        | refine DRW.q rfl rfl (fun w' hF => runs_conv64 (by rw [Try.underlying5]; rfl) Try.underlying3 rfl (byte_ok _)) ?_
        | refine DRW.q rfl rfl (fun w' hF => runs_conv64 (by rw [Try.underlying5]; rfl) Try.underlying3 rfl (by omega)) ?_
      refine DRW.q rfl rfl (fun w' hF => runs_shlBat (n := 16) rfl rfl (by decide)) ?_
      refine DRW.q rfl rfl (fun w' hF => runs_move rfl) ?_
      first
        | refine DRW.q rfl rfl (fun w' hF => RdL.indexAddr Try.underlying33 ti5 (by decide) rfl rfl (by assumption) (by omega)) ?_
        | refine DRW.q rfl rfl (fun w' hF => runs_indexAddr0 Try.underlying33 ti5 rfl rfl (by omega)) ?_
      first
        | refine DRW.q rfl rfl (FSt.load1 sc5 rfl (RdB.at (by assumption) (by omega) (by omega))) ?_
        | refine DRW.q rfl rfl (FSt.load1_own sc5 rfl (k := 0) rfl rfl) ?_
        | refine DRW.q rfl rfl (FSt.load1_own sc5 rfl (k := 1) rfl rfl) ?_
        | refine DRW.q rfl rfl (FSt.load1_own sc5 rfl (k := 2) rfl rfl) ?_
      first
        | refine DRW.q rfl rfl (fun w' hF => runs_conv64 (by rw [Try.underlying5]; rfl) Try.underlying3 rfl (bat_ok _ _)) ?_
        | refine DRW.q rfl rfl (fun w' hF => runs_conv64 (by rw [Try.underlying5]; rfl) Try.underlying3 rfl (byte_ok _)) ?_
        | refine DRW.q rfl rfl (fun w' hF => runs_conv64 (by rw [Try.underlying5]; rfl) Try.underlying3 rfl (by omega)) ?_
      refine DRW.q rfl rfl (fun w' hF => runs_shlBat (n := 8) rfl rfl (by decide)) ?_
      refine DRW.q rfl rfl (fun w' hF => runs_or3a rfl rfl) ?_
      refine DRW.q rfl rfl (fun w' hF => runs_move rfl) ?_
      first
        | refine DRW.q rfl rfl (fun w' hF => RdL.indexAddr Try.underlying33 ti5 (by decide) rfl rfl (by assumption) (by omega)) ?_
        | refine DRW.q rfl rfl (fun w' hF => runs_indexAddr0 Try.underlying33 ti5 rfl rfl (by omega)) ?_
      first
        | refine DRW.q rfl rfl (FSt.load1 sc5 rfl (RdB.at (by assumption) (by omega) (by omega))) ?_
        | refine DRW.q rfl rfl (FSt.load1_own sc5 rfl (k := 0) rfl rfl) ?_
        | refine DRW.q rfl rfl (FSt.load1_own sc5 rfl (k := 1) rfl rfl) ?_
        | refine DRW.q rfl rfl (FSt.load1_own sc5 rfl (k := 2) rfl rfl) ?_
      first
        | refine DRW.q rfl rfl (fun w' hF => runs_conv64 (by rw [Try.underlying5]; rfl) Try.underlying3 rfl (bat_ok _ _)) ?_
        | refine DRW.q rfl rfl (fun w' hF => runs_conv64 (by rw [Try.underlying5]; rfl) Try.underlying3 rfl (byte_ok _)) ?_
        | refine DRW.q rfl rfl (fun w' hF => runs_conv64 (by rw [Try.underlying5]; rfl) Try.underlying3 rfl (by omega)) ?_
      refine DRW.q rfl rfl (fun w' hF => runs_or3b rfl rfl) ?_
      refine DRW.q rfl rfl (fun w' hF => runs_buildF (cells := [_, _]) bz38 rfl rfl rfl rfl rfl) ?_
      first
        | refine DRW.opE0 rfl (runs_storeW ti38 rfl rfl hst (k := 0) rfl rfl rfl (NoFz.zero _) rfl) ?_
        | refine DRW.opE0 rfl (runs_storeP ti38 rfl rfl hst (k := 0) rfl rfl rfl (NoFz.zero _) rfl) ?_
        | refine DRW.opE0 rfl (runs_storeW ti38 rfl rfl hst (k := 1) rfl rfl rfl (NoFz.zero _) rfl) ?_
        | refine DRW.opE0 rfl (runs_storeP ti38 rfl rfl hst (k := 1) rfl rfl rfl (NoFz.zero _) rfl) ?_
        | refine DRW.opE0 rfl (runs_storeW ti38 rfl rfl hst (k := 2) rfl rfl rfl (NoFz.zero _) rfl) ?_
        | refine DRW.opE0 rfl (runs_storeP ti38 rfl rfl hst (k := 2) rfl rfl rfl (NoFz.zero _) rfl) ?_
      rintro w hstn
      clear hst
      have hst := hstn
      clear hstn
      try simp only [List.set_cons_zero, List.set_cons_succ] at hst
      refine ⟨FSt.of hst (Imm.le.refl _) (by first | exact (List.sublist_cons_self _ _).trans (List.sublist_append_right _ _) | exact List.Sublist.refl _ | exact List.sublist_cons_self _ _ | exact List.sublist_append_right _ _ | exact (List.sublist_cons_self _ _).trans (List.sublist_cons_self _ _) | exact (List.sublist_append_right _ _).trans (List.sublist_cons_self _ _) | simp), ?_⟩
      refine DRW.done ?_
      refine AQ.next ?_
      refine CW.seq ?_
      -- region 4
      refine CW.drawSt hst (.q 0 (.q 1 (.q 2 (.q 3 (.q 4 (.q 5 (.q 6 (.q 7 (.q 8 (.q 9 (.q 10 (.q 11 (.q 12 (.q 13 (.q 14 (.l 15 (.q 16 (.q 17 (.q 18 .nil))))))))))))))))))) follows (by kernel_rfl) (fun w hst => ?_)
      refine DRW.q rfl rfl (fun w' hF => runs_move rfl) ?_
      first
        | refine DRW.q rfl rfl (fun w' hF => RdL.indexAddr Try.underlying33 ti5 (by decide) rfl rfl (by assumption) (by omega)) ?_
        | refine DRW.q rfl rfl (fun w' hF => runs_indexAddr0 Try.underlying33 ti5 rfl rfl (by omega)) ?_
      first
        | refine DRW.q rfl rfl (FSt.load1 sc5 rfl (RdB.at (by assumption) (by omega) (by omega))) ?_
        | refine DRW.q rfl rfl (FSt.load1_own sc5 rfl (k := 0) rfl rfl) ?_
        | refine DRW.q rfl rfl (FSt.load1_own sc5 rfl (k := 1) rfl rfl) ?_
        | refine DRW.q rfl rfl (FSt.load1_own sc5 rfl (k := 2) rfl rfl) ?_
      first
        | refine DRW.q rfl rfl (fun w' hF => runs_conv64 (by rw [Try.underlying5]; rfl) Try.underlying3 rfl (bat_ok _ _)) ?_
        | refine DRW.q rfl rfl (fun w' hF => runs_conv64 (by rw [Try.underlying5]; rfl) Try.underlying3 rfl (byte_ok _)) ?_
        | refine DRW.q rfl rfl (fun w' hF => runs_conv64 (by rw [Try.underlying5]; rfl) Try.underlying3 rfl (by omega)) ?_
      refine DRW.q rfl rfl (fun w' hF => runs_move rfl) ?_
      first
        | refine DRW.q rfl rfl (fun w' hF => RdL.indexAddr Try.underlying33 ti5 (by decide) rfl rfl (by assumption) (by omega)) ?_
        | refine DRW.q rfl rfl (fun w' hF => runs_indexAddr0 Try.underlying33 ti5 rfl rfl (by omega)) ?_
      first
        | refine DRW.q rfl rfl (FSt.load1 sc5 rfl (RdB.at (by assumption) (by omega) (by omega))) ?_
        | refine DRW.q rfl rfl (FSt.load1_own sc5 rfl (k := 0) rfl rfl) ?_
        | refine DRW.q rfl rfl (FSt.load1_own sc5 rfl (k := 1) rfl rfl) ?_
        | refine DRW.q rfl rfl (FSt.load1_own sc5 rfl (k := 2) rfl rfl) ?_
      first
        | refine DRW.q rfl rfl (fun w' hF => runs_conv64 (by rw [Try.underlying5]; rfl) Try.underlying3 rfl (bat_ok _ _)) ?_
        | refine DRW.q rfl rfl (fun w' hF => runs_conv64 (by rw [Try.underlying5]; rfl) Try.underlying3 rfl (byte_ok _)) ?_
        | refine DRW.q rfl rfl (fun w' hF => runs_conv64 (by rw [Try.underlying5]; rfl) Try.underlying3 rfl (by omega)) ?_
      refine DRW.q rfl rfl (fun w' hF => runs_move rfl) ?_
      refine DRW.q rfl rfl (fun w' hF => runs_move rfl) ?_
      first
        | refine DRW.q rfl rfl (fun w' hF => RdL.indexAddr Try.underlying33 ti5 (by decide) rfl rfl (by assumption) (by omega)) ?_
        | refine DRW.q rfl rfl (fun w' hF => runs_indexAddr0 Try.underlying33 ti5 rfl rfl (by omega)) ?_
      first
        | refine DRW.q rfl rfl (FSt.load1 sc5 rfl (RdB.at (by assumption) (by omega) (by omega))) ?_
        | refine DRW.q rfl rfl (FSt.load1_own sc5 rfl (k := 0) rfl rfl) ?_
        | refine DRW.q rfl rfl (FSt.load1_own sc5 rfl (k := 1) rfl rfl) ?_
        | refine DRW.q rfl rfl (FSt.load1_own sc5 rfl (k := 2) rfl rfl) ?_
      first
        | refine DRW.q rfl rfl (fun w' hF => runs_conv64 (by rw [Try.underlying5]; rfl) Try.underlying3 rfl (bat_ok _ _)) ?_
        | refine DRW.q rfl rfl (fun w' hF => runs_conv64 (by rw [Try.underlying5]; rfl) Try.underlying3 rfl (byte_ok _)) ?_
        | refine DRW.q rfl rfl (fun w' hF => runs_conv64 (by rw [Try.underlying5]; rfl) Try.underlying3 rfl (by omega)) ?_
      refine DRW.q rfl rfl (fun w' hF => runs_add rfl rfl (by have := bat_lt s 7; omega)) ?_
      refine DRW.q rfl rfl (fun w' hF => RdL.slice_lh Try.underlying33 ti5 rfl rfl rfl (by assumption) (by have := bat_lt s 7; omega)) ?_
      refine DRW.call rfl rfl call46 rfl rfl (clone_spec hst (RdB.part hv (lo := 8) (hi := (8 + bat s 7).toNat) (by have := bat_lt s 7; omega) (by have := bat_lt s 7; omega)) (by rw [List.length_take, List.length_drop]; omega)) ?_
      rintro e w ⟨I62, v62, hI62, rfl, hstn, h62⟩
      clear hst
      have hst := hstn
      clear hstn
      rw [body_of] at h62
      replace hv := hv.mono hI62
      replace hle := hle.trans hI62
      refine ⟨_, rfl, FSt.of hst hI62 (by first | exact (List.sublist_cons_self _ _).trans (List.sublist_append_right _ _) | exact List.Sublist.refl _ | exact List.sublist_cons_self _ _ | exact List.sublist_append_right _ _ | exact (List.sublist_cons_self _ _).trans (List.sublist_cons_self _ _) | exact (List.sublist_append_right _ _).trans (List.sublist_cons_self _ _) | simp), ?_⟩
      refine DRW.q rfl rfl (fun w' hF => runs_assign rfl) ?_
      refine DRW.q rfl rfl (fun w' hF => runs_assign rfl) ?_
      refine DRW.q rfl rfl (fun w' hF => runs_assign rfl) ?_
      refine DRW.done ?_
      refine AQ.next ?_
      refine CW.seq ?_
      refine CW.seq ?_
      -- region 5
      refine CW.region ?_
      first
        | refine RW.op1 rfl (runs_loadN (vs := [_, _]) ag38 ti38 rfl hst (k := 0) rfl rfl rfl) ?_
        | refine RW.op1 rfl (runs_loadN (vs := [_, _]) ag38 ti38 rfl hst (k := 1) rfl rfl rfl) ?_
        | refine RW.op1 rfl (runs_loadN (vs := [_, _]) ag38 ti38 rfl hst (k := 2) rfl rfl rfl) ?_
      refine RW.op1 rfl (runs_move rfl) ?_
      refine RW.op1 rfl (runs_move rfl) ?_
      refine RW.op1 rfl (runs_move rfl) ?_
      refine RW.call rfl call14 rfl rfl (seal_spec hst (epochOf s) (seqOf s) (bat s 5) (bat s 6) h62 (by have := bodyOf_length s; omega)) ?_
      rintro e w ⟨I68, v68, hI68, rfl, hstn, h68⟩
      clear hst
      have hst := hstn
      clear hstn
      replace hv := hv.mono hI68
      replace h62 := h62.mono hI68
      replace hle := hle.trans hI68
      refine ⟨_, rfl, ?_⟩
      refine RW.op1 rfl (runs_move rfl) ?_
      refine RW.op1 rfl (runs_extract rfl rfl) ?_
      refine RW.op1 rfl (runs_extract rfl rfl) ?_
      refine RW.op1 rfl (runs_assign rfl) ?_
      refine RW.op1 rfl (runs_assign rfl) ?_
      refine RW.done ?_
      refine AQ.next ?_
      refine CW.seq ?_
      -- region 6
      refine CW.region ?_
      refine RW.op1 rfl (runs_move rfl) ?_
      refine RW.op1 rfl (runs_neI rfl rfl) ?_
      refine RW.op1 rfl (runs_move rfl) ?_
      refine RW.split (t := 73) rfl (fun hb73 => ?_) (fun hb73 => ?_)
      · have hb73p := hb73
        try simp only [decide_eq_true_eq, decide_eq_false_iff_not] at hb73p
        skip
        refine RW.off_guard rfl rfl rfl rfl hb73 ?_
        refine RW.off_guard rfl rfl rfl rfl hb73 ?_
        refine RW.off_guard rfl rfl rfl rfl hb73 ?_
        refine RW.off_guard rfl rfl rfl rfl hb73 ?_
        refine RW.op1 rfl (runs_pick_true rfl hb73 rfl) ?_
        refine RW.done ?_
        refine AQ.next ?_
        refine CW.cond_true rfl ?_
        refine CW.seq ?_
        -- region 7
        refine CW.region ?_
        refine RW.op1 rfl (runs_buildF (cells := [_, _]) bz38 rfl rfl rfl rfl rfl) ?_
        first
          | refine RW.opE0 (runs_storeW ti38 rfl rfl hst (k := 0) rfl rfl rfl (NoFz.zero _) rfl) ?_
          | refine RW.opE0 (runs_storeP ti38 rfl rfl hst (k := 0) rfl rfl rfl (NoFz.zero _) rfl) ?_
          | refine RW.opE0 (runs_storeW ti38 rfl rfl hst (k := 1) rfl rfl rfl (NoFz.zero _) rfl) ?_
          | refine RW.opE0 (runs_storeP ti38 rfl rfl hst (k := 1) rfl rfl rfl (NoFz.zero _) rfl) ?_
          | refine RW.opE0 (runs_storeW ti38 rfl rfl hst (k := 2) rfl rfl rfl (NoFz.zero _) rfl) ?_
          | refine RW.opE0 (runs_storeP ti38 rfl rfl hst (k := 2) rfl rfl rfl (NoFz.zero _) rfl) ?_
        rintro w hstn
        clear hst
        have hst := hstn
        clear hstn
        try simp only [List.set_cons_zero, List.set_cons_succ] at hst
        refine RW.op1 rfl (runs_assign rfl) ?_
        refine RW.op1 rfl (runs_assign rfl) ?_
        refine RW.op1 rfl (runs_assign rfl) ?_
        refine RW.op1 rfl (runs_assign rfl) ?_
        refine RW.done ?_
        refine AQ.next ?_
        refine CW.ret ?_
        refine AQ.past_ret ?_
        refine AQ.retL (rs := [.cell 2 38, .tmp 3, .tmp 4, .tmp 5, .tmp 6]) (vs := [_, _, _, _, _]) rfl ⟨⟨_, rfl, hst.loadN (vs := [_, _]) (k := 0) ag38 ti38 rfl rfl rfl⟩, rfl, rfl, rfl, rfl, trivial⟩ (by simp) ?_
        rw [openR_bad (openOk_mark (by
          cases hs : sealM (epochOf s) (seqOf s) (bat s 5) (bat s 6) (bodyOf s)
          · rfl
          · rw [hs] at hb73p; exact absurd rfl hb73p))]
        exact ⟨_, _, hle, rfl, St.drop1 (L := L) hst, RdL.nil 1⟩
      · have hb73p := hb73
        try simp only [decide_eq_true_eq, decide_eq_false_iff_not] at hb73p
        have hseal : sealM (epochOf s) (seqOf s) (bat s 5) (bat s 6) (bodyOf s) = true := by
          cases hs : sealM (epochOf s) (seqOf s) (bat s 5) (bat s 6) (bodyOf s)
          · rw [hs] at hb73p; exact absurd (by decide) hb73p
          · rfl
        rw [hseal] at h68
        refine RW.on_guard rfl rfl rfl rfl hb73 ?_
        refine RW.op1 rfl (runs_move rfl) ?_
        refine RW.on_guard rfl rfl rfl rfl hb73 ?_
        refine RW.op1 rfl (runs_move rfl) ?_
        refine RW.on_guard rfl rfl rfl rfl hb73 ?_
        refine RW.call rfl call50 rfl rfl (equal_spec hst h68 hv) ?_
        rintro e w ⟨rfl, hstn⟩
        clear hst
        have hst := hstn
        clear hstn
        refine ⟨_, rfl, ?_⟩
        refine RW.on_guard rfl rfl rfl rfl hb73 ?_
        refine RW.op1 rfl (runs_not rfl) ?_
        refine RW.op1 rfl (runs_pick_false rfl hb73 rfl) ?_
        refine RW.done ?_
        refine AQ.next ?_
        refine CW.cond rfl (fun hc78 => ?_) (fun hc78 => ?_)
        · have hcb78 := hc78
          try simp only [decide_eq_true_eq, decide_eq_false_iff_not] at hc78
          refine CW.seq ?_
          -- region 7
          refine CW.region ?_
          refine RW.op1 rfl (runs_buildF (cells := [_, _]) bz38 rfl rfl rfl rfl rfl) ?_
          first
            | refine RW.opE0 (runs_storeW ti38 rfl rfl hst (k := 0) rfl rfl rfl (NoFz.zero _) rfl) ?_
            | refine RW.opE0 (runs_storeP ti38 rfl rfl hst (k := 0) rfl rfl rfl (NoFz.zero _) rfl) ?_
            | refine RW.opE0 (runs_storeW ti38 rfl rfl hst (k := 1) rfl rfl rfl (NoFz.zero _) rfl) ?_
            | refine RW.opE0 (runs_storeP ti38 rfl rfl hst (k := 1) rfl rfl rfl (NoFz.zero _) rfl) ?_
            | refine RW.opE0 (runs_storeW ti38 rfl rfl hst (k := 2) rfl rfl rfl (NoFz.zero _) rfl) ?_
            | refine RW.opE0 (runs_storeP ti38 rfl rfl hst (k := 2) rfl rfl rfl (NoFz.zero _) rfl) ?_
          rintro w hstn
          clear hst
          have hst := hstn
          clear hstn
          try simp only [List.set_cons_zero, List.set_cons_succ] at hst
          refine RW.op1 rfl (runs_assign rfl) ?_
          refine RW.op1 rfl (runs_assign rfl) ?_
          refine RW.op1 rfl (runs_assign rfl) ?_
          refine RW.op1 rfl (runs_assign rfl) ?_
          refine RW.done ?_
          refine AQ.next ?_
          refine CW.ret ?_
          refine AQ.past_ret ?_
          refine AQ.retL (rs := [.cell 2 38, .tmp 3, .tmp 4, .tmp 5, .tmp 6]) (vs := [_, _, _, _, _]) rfl ⟨⟨_, rfl, hst.loadN (vs := [_, _]) (k := 0) ag38 ti38 rfl rfl rfl⟩, rfl, rfl, rfl, rfl, trivial⟩ (by simp) ?_
          rw [openR_bad (openOk_ne (by simpa [hseal] using hc78))]
          exact ⟨_, _, hle, rfl, St.drop1 (L := L) hst, RdL.nil 1⟩
        · have hcb78 := hc78
          try simp only [decide_eq_true_eq, decide_eq_false_iff_not] at hc78
          refine CW.skip ?_
          refine AQ.next ?_
          refine CW.seq ?_
          -- region 8
          refine CW.region ?_
          first
            | refine RW.op1 rfl (runs_loadN (vs := [_, _]) ag38 ti38 rfl hst (k := 0) rfl rfl rfl) ?_
            | refine RW.op1 rfl (runs_loadN (vs := [_, _]) ag38 ti38 rfl hst (k := 1) rfl rfl rfl) ?_
            | refine RW.op1 rfl (runs_loadN (vs := [_, _]) ag38 ti38 rfl hst (k := 2) rfl rfl rfl) ?_
          refine RW.op1 rfl (runs_move rfl) ?_
          refine RW.op1 rfl (runs_move rfl) ?_
          refine RW.op1 rfl (runs_move rfl) ?_
          first
            | refine RW.opE0 (runs_storeW ti38 rfl rfl hst (k := 0) rfl rfl rfl (NoFz.zero _) rfl) ?_
            | refine RW.opE0 (runs_storeP ti38 rfl rfl hst (k := 0) rfl rfl rfl (NoFz.zero _) rfl) ?_
            | refine RW.opE0 (runs_storeW ti38 rfl rfl hst (k := 1) rfl rfl rfl (NoFz.zero _) rfl) ?_
            | refine RW.opE0 (runs_storeP ti38 rfl rfl hst (k := 1) rfl rfl rfl (NoFz.zero _) rfl) ?_
            | refine RW.opE0 (runs_storeW ti38 rfl rfl hst (k := 2) rfl rfl rfl (NoFz.zero _) rfl) ?_
            | refine RW.opE0 (runs_storeP ti38 rfl rfl hst (k := 2) rfl rfl rfl (NoFz.zero _) rfl) ?_
          rintro w hstn
          clear hst
          have hst := hstn
          clear hstn
          try simp only [List.set_cons_zero, List.set_cons_succ] at hst
          refine RW.op1 rfl (runs_assign rfl) ?_
          refine RW.op1 rfl (runs_assign rfl) ?_
          refine RW.op1 rfl (runs_assign rfl) ?_
          refine RW.op1 rfl (runs_assign rfl) ?_
          refine RW.done ?_
          refine AQ.next ?_
          refine CW.ret ?_
          refine AQ.retL (rs := [.cell 2 38, .tmp 3, .tmp 4, .tmp 5, .tmp 6]) (vs := [_, _, _, _, _]) rfl ⟨⟨_, rfl, hst.loadN (vs := [_, _]) (k := 0) ag38 ti38 rfl rfl rfl⟩, rfl, rfl, rfl, rfl, trivial⟩ (by simp) ?_
          rw [openR_ok (openOk_all hlen (by omega) hseal (by simpa [hseal] using hc78))]
          exact ⟨_, _, hle, rfl, St.drop1 (L := L) hst, h62⟩
end Go.Proofs.YthocicjjighbnaaX
