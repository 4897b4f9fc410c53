/- What opening a sector comes to by the document; the chapter's example; halves of sectors. -/
import Derived.Test.YtnnaplcddhjfbaaT
import Derived.Test.YtnnaplcddhjfbaaM5
import Derived.Test.YtnnaplcddhjfbaaM6
namespace Go.Proofs.YtnnaplcddhjfbaaX
set_option linter.unusedVariables false
set_option linter.unusedSimpArgs false
open Go Go.RowKit Go.Proofs

attribute [local simp] two_length three_length
set_option maxRecDepth 100000 in
set_option maxHeartbeats 1000000 in
theorem refOpen_spec {w0 w : World} {I : Imm} {L : Own} (hst : St w0 w I L) {v : Value} {s : List UInt8} (hv : RdB I v s) (hb : s.length ≤ 140737488355328) :
    Calls Try.prog 17 #[v] w fun r w' => ∃ I' v', Imm.le I I' ∧ r = .returned (.tuple #[.int .i64 (openR s).e, .int .i64 (openR s).q, .int .i64 (openR s).p, .int .i64 (openR s).n, v', .bool (openOk s)]) ∧ St w0 w' I' L ∧ RdB I' v' (openR s).b := by
  refine enter Try.func17 rfl (N := 84) rfl rfl ?_
  simp only [List.zipIdx_cons, List.zipIdx_nil, List.map_cons, List.map_nil, Nat.zero_add, Nat.reduceAdd]
  have hle := Imm.le.refl I
  refine CW.seq ?_
  -- region 0
  refine CW.region ?_
  refine RW.op1 rfl (runs_assign rfl) ?_
  refine RW.op1 rfl (runs_assign rfl) ?_
  refine RW.op1 rfl (runs_assign rfl) ?_
  refine RW.op1 rfl (runs_assign rfl) ?_
  refine RW.op1 rfl (runs_assign rfl) ?_
  refine RW.op1 rfl (runs_assign rfl) ?_
  refine RW.done ?_
  refine AQ.next ?_
  refine CW.seq ?_
  refine CW.seq ?_
  -- region 1
  refine CW.region ?_
  refine RW.op1 rfl (runs_move rfl) ?_
  first
    | refine RW.op1 rfl (RdL.len Try.underlying22 rfl (by assumption)) ?_
    | refine RW.op1 rfl (runs_lenL Try.underlying22 rfl) ?_
    | refine RW.op1 rfl (Grow.len Try.underlying22 rfl (by assumption)) ?_
  refine RW.op1 rfl (runs_neI rfl rfl) ?_
  refine RW.op1 rfl (runs_move rfl) ?_
  refine RW.split (t := 13) rfl (fun hb13 => ?_) (fun hb13 => ?_)
  · have hb13p := hb13
    try simp only [decide_eq_true_eq, decide_eq_false_iff_not] at hb13p
    skip
    refine RW.off_guard rfl rfl rfl rfl hb13 ?_
    refine RW.off_guard rfl rfl rfl rfl hb13 ?_
    refine RW.off_guard rfl rfl rfl rfl hb13 ?_
    refine RW.off_guard rfl rfl rfl rfl hb13 ?_
    refine RW.op1 rfl (runs_pick_true rfl hb13 rfl) ?_
    refine RW.done ?_
    refine AQ.next ?_
    refine CW.cond_true rfl ?_
    refine CW.seq ?_
    -- region 2
    refine CW.region ?_
    refine RW.op1 rfl (runs_assign rfl) ?_
    refine RW.op1 rfl (runs_assign rfl) ?_
    refine RW.op1 rfl (runs_assign rfl) ?_
    refine RW.op1 rfl (runs_assign rfl) ?_
    refine RW.op1 rfl (runs_assign rfl) ?_
    refine RW.op1 rfl (runs_assign rfl) ?_
    refine RW.done ?_
    refine AQ.next ?_
    refine CW.ret ?_
    refine AQ.past_ret ?_
    refine AQ.retL (rs := [.tmp 2, .tmp 3, .tmp 4, .tmp 5, .tmp 6, .tmp 7]) (vs := [_, _, _, _, _, _]) rfl ⟨rfl, rfl, rfl, rfl, rfl, rfl, trivial⟩ (by simp) ?_
    have ho : openOk s = false := openOk_len (by omega)
    rw [openR_bad ho, ho]
    exact ⟨_, _, hle, rfl, hst, RdL.nil 1⟩
  · have hb13p := hb13
    try simp only [decide_eq_true_eq, decide_eq_false_iff_not] at hb13p
    have hlen : s.length = 32 := by omega
    refine RW.on_guard rfl rfl rfl rfl hb13 ?_
    refine RW.op1 rfl (runs_move rfl) ?_
    refine RW.on_guard rfl rfl rfl rfl hb13 ?_
    first
      | refine RW.op1 rfl (RdL.indexAddr Try.underlying22 ti5 (by decide) rfl rfl (by assumption) (by omega)) ?_
      | refine RW.op1 rfl (runs_indexAddr0 Try.underlying22 ti5 rfl rfl (by omega)) ?_
    refine RW.on_guard rfl rfl rfl rfl hb13 ?_
    first
      | refine RW.op1 rfl (runs_load1 sc5 rfl (hst.cell_imm (RdB.at (by assumption) (by omega) (by omega)))) ?_
      | refine RW.op1 rfl (runs_load1 sc5 rfl (hst.cell_own (k := 0) rfl rfl)) ?_
      | refine RW.op1 rfl (runs_load1 sc5 rfl (hst.cell_own (k := 1) rfl rfl)) ?_
      | refine RW.op1 rfl (runs_load1 sc5 rfl (hst.cell_own (k := 2) rfl rfl)) ?_
    refine RW.on_guard rfl rfl rfl rfl hb13 ?_
    refine RW.op1 rfl (runs_gtr rfl rfl) ?_
    refine RW.op1 rfl (runs_pick_false rfl hb13 rfl) ?_
    refine RW.done ?_
    refine AQ.next ?_
    refine CW.cond rfl (fun hc18 => ?_) (fun hc18 => ?_)
    · have hcb18 := hc18
      try simp only [decide_eq_true_eq, decide_eq_false_iff_not] at hc18
      refine CW.seq ?_
      -- region 2
      refine CW.region ?_
      refine RW.op1 rfl (runs_assign rfl) ?_
      refine RW.op1 rfl (runs_assign rfl) ?_
      refine RW.op1 rfl (runs_assign rfl) ?_
      refine RW.op1 rfl (runs_assign rfl) ?_
      refine RW.op1 rfl (runs_assign rfl) ?_
      refine RW.op1 rfl (runs_assign rfl) ?_
      refine RW.done ?_
      refine AQ.next ?_
      refine CW.ret ?_
      refine AQ.past_ret ?_
      refine AQ.retL (rs := [.tmp 2, .tmp 3, .tmp 4, .tmp 5, .tmp 6, .tmp 7]) (vs := [_, _, _, _, _, _]) rfl ⟨rfl, rfl, rfl, rfl, rfl, rfl, trivial⟩ (by simp) ?_
      have ho : openOk s = false := openOk_long hc18
      rw [openR_bad ho, ho]
      exact ⟨_, _, hle, rfl, hst, RdL.nil 1⟩
    · have hcb18 := hc18
      try simp only [decide_eq_true_eq, decide_eq_false_iff_not] at hc18
      refine CW.skip ?_
      refine AQ.next ?_
      refine CW.seq ?_
      -- region 3
      refine CW.drawSt hst (.q 0 (.q 1 (.q 2 (.q 3 (.q 4 (.q 5 (.q 6 (.q 7 (.q 8 (.q 9 (.q 10 (.q 11 (.q 12 (.q 13 (.q 14 (.q 15 (.q 16 (.q 17 (.q 18 (.q 19 (.q 20 (.q 21 (.q 22 (.q 23 (.q 24 (.q 25 (.q 26 (.q 27 (.q 28 (.q 29 (.q 30 (.q 31 (.q 32 (.q 33 (.q 34 (.q 35 (.q 36 (.q 37 .nil)))))))))))))))))))))))))))))))))))))) follows (by kernel_rfl) (fun w hst => ?_)
      refine DRW.q rfl rfl (fun w' hF => runs_move rfl) ?_
      first
        | refine DRW.q rfl rfl (fun w' hF => RdL.indexAddr Try.underlying22 ti5 (by decide) rfl rfl (by assumption) (by omega)) ?_
        | refine DRW.q rfl rfl (fun w' hF => runs_indexAddr0 Try.underlying22 ti5 rfl rfl (by omega)) ?_
      first
        | refine DRW.q rfl rfl (FSt.load1 sc5 rfl (RdB.at (by assumption) (by omega) (by omega))) ?_
        | refine DRW.q rfl rfl (FSt.load1_own sc5 rfl (k := 0) rfl rfl) ?_
        | refine DRW.q rfl rfl (FSt.load1_own sc5 rfl (k := 1) rfl rfl) ?_
        | refine DRW.q rfl rfl (FSt.load1_own sc5 rfl (k := 2) rfl rfl) ?_
      first
        | refine DRW.q rfl rfl (fun w' hF => runs_conv64 (by rw [Try.underlying5]; rfl) Try.underlying3 rfl (bat_ok _ _)) ?_
        | refine DRW.q rfl rfl (fun w' hF => runs_conv64 (by rw [Try.underlying5]; rfl) Try.underlying3 rfl (byte_ok _)) ?_
        | refine DRW.q rfl rfl (fun w' hF => runs_conv64 (by rw [Try.underlying5]; rfl) Try.underlying3 rfl (by omega)) ?_
      refine DRW.q rfl rfl (fun w' hF => runs_shlBat (n := 8) rfl rfl (by decide)) ?_
      refine DRW.q rfl rfl (fun w' hF => runs_move rfl) ?_
      first
        | refine DRW.q rfl rfl (fun w' hF => RdL.indexAddr Try.underlying22 ti5 (by decide) rfl rfl (by assumption) (by omega)) ?_
        | refine DRW.q rfl rfl (fun w' hF => runs_indexAddr0 Try.underlying22 ti5 rfl rfl (by omega)) ?_
      first
        | refine DRW.q rfl rfl (FSt.load1 sc5 rfl (RdB.at (by assumption) (by omega) (by omega))) ?_
        | refine DRW.q rfl rfl (FSt.load1_own sc5 rfl (k := 0) rfl rfl) ?_
        | refine DRW.q rfl rfl (FSt.load1_own sc5 rfl (k := 1) rfl rfl) ?_
        | refine DRW.q rfl rfl (FSt.load1_own sc5 rfl (k := 2) rfl rfl) ?_
      first
        | refine DRW.q rfl rfl (fun w' hF => runs_conv64 (by rw [Try.underlying5]; rfl) Try.underlying3 rfl (bat_ok _ _)) ?_
        | refine DRW.q rfl rfl (fun w' hF => runs_conv64 (by rw [Try.underlying5]; rfl) Try.underlying3 rfl (byte_ok _)) ?_
        | refine DRW.q rfl rfl (fun w' hF => runs_conv64 (by rw [Try.underlying5]; rfl) Try.underlying3 rfl (by omega)) ?_
      refine DRW.q rfl rfl (fun w' hF => runs_or2 rfl rfl) ?_
      refine DRW.q rfl rfl (fun w' hF => runs_move rfl) ?_
      first
        | refine DRW.q rfl rfl (fun w' hF => RdL.indexAddr Try.underlying22 ti5 (by decide) rfl rfl (by assumption) (by omega)) ?_
        | refine DRW.q rfl rfl (fun w' hF => runs_indexAddr0 Try.underlying22 ti5 rfl rfl (by omega)) ?_
      first
        | refine DRW.q rfl rfl (FSt.load1 sc5 rfl (RdB.at (by assumption) (by omega) (by omega))) ?_
        | refine DRW.q rfl rfl (FSt.load1_own sc5 rfl (k := 0) rfl rfl) ?_
        | refine DRW.q rfl rfl (FSt.load1_own sc5 rfl (k := 1) rfl rfl) ?_
        | refine DRW.q rfl rfl (FSt.load1_own sc5 rfl (k := 2) rfl rfl) ?_
      first
        | refine DRW.q rfl rfl (fun w' hF => runs_conv64 (by rw [Try.underlying5]; rfl) Try.underlying3 rfl (bat_ok _ _)) ?_
        | refine DRW.q rfl rfl (fun w' hF => runs_conv64 (by rw [Try.underlying5]; rfl) Try.underlying3 rfl (byte_ok _)) ?_
        | refine DRW.q rfl rfl (fun w' hF => runs_conv64 (by rw [Try.underlying5]; rfl) Try.underlying3 rfl (by omega)) ?_
      refine DRW.q rfl rfl (fun w' hF => runs_shlBat (n := 16) rfl rfl (by decide)) ?_
      refine DRW.q rfl rfl (fun w' hF => runs_move rfl) ?_
      first
        | refine DRW.q rfl rfl (fun w' hF => RdL.indexAddr Try.underlying22 ti5 (by decide) rfl rfl (by assumption) (by omega)) ?_
        | refine DRW.q rfl rfl (fun w' hF => runs_indexAddr0 Try.underlying22 ti5 rfl rfl (by omega)) ?_
      first
        | refine DRW.q rfl rfl (FSt.load1 sc5 rfl (RdB.at (by assumption) (by omega) (by omega))) ?_
        | refine DRW.q rfl rfl (FSt.load1_own sc5 rfl (k := 0) rfl rfl) ?_
        | refine DRW.q rfl rfl (FSt.load1_own sc5 rfl (k := 1) rfl rfl) ?_
        | refine DRW.q rfl rfl (FSt.load1_own sc5 rfl (k := 2) rfl rfl) ?_
      first
        | refine DRW.q rfl rfl (fun w' hF => runs_conv64 (by rw [Try.underlying5]; rfl) Try.underlying3 rfl (bat_ok _ _)) ?_
        | refine DRW.q rfl rfl (fun w' hF => runs_conv64 (by rw [Try.underlying5]; rfl) Try.underlying3 rfl (byte_ok _)) ?_
        | refine DRW.q rfl rfl (fun w' hF => runs_conv64 (by rw [Try.underlying5]; rfl) Try.underlying3 rfl (by omega)) ?_
      refine DRW.q rfl rfl (fun w' hF => runs_shlBat (n := 8) rfl rfl (by decide)) ?_
      refine DRW.q rfl rfl (fun w' hF => runs_or3a rfl rfl) ?_
      refine DRW.q rfl rfl (fun w' hF => runs_move rfl) ?_
      first
        | refine DRW.q rfl rfl (fun w' hF => RdL.indexAddr Try.underlying22 ti5 (by decide) rfl rfl (by assumption) (by omega)) ?_
        | refine DRW.q rfl rfl (fun w' hF => runs_indexAddr0 Try.underlying22 ti5 rfl rfl (by omega)) ?_
      first
        | refine DRW.q rfl rfl (FSt.load1 sc5 rfl (RdB.at (by assumption) (by omega) (by omega))) ?_
        | refine DRW.q rfl rfl (FSt.load1_own sc5 rfl (k := 0) rfl rfl) ?_
        | refine DRW.q rfl rfl (FSt.load1_own sc5 rfl (k := 1) rfl rfl) ?_
        | refine DRW.q rfl rfl (FSt.load1_own sc5 rfl (k := 2) rfl rfl) ?_
      first
        | refine DRW.q rfl rfl (fun w' hF => runs_conv64 (by rw [Try.underlying5]; rfl) Try.underlying3 rfl (bat_ok _ _)) ?_
        | refine DRW.q rfl rfl (fun w' hF => runs_conv64 (by rw [Try.underlying5]; rfl) Try.underlying3 rfl (byte_ok _)) ?_
        | refine DRW.q rfl rfl (fun w' hF => runs_conv64 (by rw [Try.underlying5]; rfl) Try.underlying3 rfl (by omega)) ?_
      refine DRW.q rfl rfl (fun w' hF => runs_or3b rfl rfl) ?_
      refine DRW.q rfl rfl (fun w' hF => runs_move rfl) ?_
      first
        | refine DRW.q rfl rfl (fun w' hF => RdL.indexAddr Try.underlying22 ti5 (by decide) rfl rfl (by assumption) (by omega)) ?_
        | refine DRW.q rfl rfl (fun w' hF => runs_indexAddr0 Try.underlying22 ti5 rfl rfl (by omega)) ?_
      first
        | refine DRW.q rfl rfl (FSt.load1 sc5 rfl (RdB.at (by assumption) (by omega) (by omega))) ?_
        | refine DRW.q rfl rfl (FSt.load1_own sc5 rfl (k := 0) rfl rfl) ?_
        | refine DRW.q rfl rfl (FSt.load1_own sc5 rfl (k := 1) rfl rfl) ?_
        | refine DRW.q rfl rfl (FSt.load1_own sc5 rfl (k := 2) rfl rfl) ?_
      first
        | refine DRW.q rfl rfl (fun w' hF => runs_conv64 (by rw [Try.underlying5]; rfl) Try.underlying3 rfl (bat_ok _ _)) ?_
        | refine DRW.q rfl rfl (fun w' hF => runs_conv64 (by rw [Try.underlying5]; rfl) Try.underlying3 rfl (byte_ok _)) ?_
        | refine DRW.q rfl rfl (fun w' hF => runs_conv64 (by rw [Try.underlying5]; rfl) Try.underlying3 rfl (by omega)) ?_
      refine DRW.q rfl rfl (fun w' hF => runs_move rfl) ?_
      first
        | refine DRW.q rfl rfl (fun w' hF => RdL.indexAddr Try.underlying22 ti5 (by decide) rfl rfl (by assumption) (by omega)) ?_
        | refine DRW.q rfl rfl (fun w' hF => runs_indexAddr0 Try.underlying22 ti5 rfl rfl (by omega)) ?_
      first
        | refine DRW.q rfl rfl (FSt.load1 sc5 rfl (RdB.at (by assumption) (by omega) (by omega))) ?_
        | refine DRW.q rfl rfl (FSt.load1_own sc5 rfl (k := 0) rfl rfl) ?_
        | refine DRW.q rfl rfl (FSt.load1_own sc5 rfl (k := 1) rfl rfl) ?_
        | refine DRW.q rfl rfl (FSt.load1_own sc5 rfl (k := 2) rfl rfl) ?_
      first
        | refine DRW.q rfl rfl (fun w' hF => runs_conv64 (by rw [Try.underlying5]; rfl) Try.underlying3 rfl (bat_ok _ _)) ?_
        | refine DRW.q rfl rfl (fun w' hF => runs_conv64 (by rw [Try.underlying5]; rfl) Try.underlying3 rfl (byte_ok _)) ?_
        | refine DRW.q rfl rfl (fun w' hF => runs_conv64 (by rw [Try.underlying5]; rfl) Try.underlying3 rfl (by omega)) ?_
      refine DRW.q rfl rfl (fun w' hF => runs_assign rfl) ?_
      refine DRW.q rfl rfl (fun w' hF => runs_assign rfl) ?_
      refine DRW.q rfl rfl (fun w' hF => runs_assign rfl) ?_
      refine DRW.q rfl rfl (fun w' hF => runs_assign rfl) ?_
      refine DRW.done ?_
      refine AQ.next ?_
      refine CW.seq ?_
      -- region 4
      refine CW.region ?_
      refine RW.op1 rfl (runs_move rfl) ?_
      refine RW.op1 rfl (runs_move rfl) ?_
      first
        | refine RW.op1 rfl (RdL.indexAddr Try.underlying22 ti5 (by decide) rfl rfl (by assumption) (by omega)) ?_
        | refine RW.op1 rfl (runs_indexAddr0 Try.underlying22 ti5 rfl rfl (by omega)) ?_
      first
        | refine RW.op1 rfl (runs_load1 sc5 rfl (hst.cell_imm (RdB.at (by assumption) (by omega) (by omega)))) ?_
        | refine RW.op1 rfl (runs_load1 sc5 rfl (hst.cell_own (k := 0) rfl rfl)) ?_
        | refine RW.op1 rfl (runs_load1 sc5 rfl (hst.cell_own (k := 1) rfl rfl)) ?_
        | refine RW.op1 rfl (runs_load1 sc5 rfl (hst.cell_own (k := 2) rfl rfl)) ?_
      first
        | refine RW.op1 rfl (runs_conv64 (by rw [Try.underlying5]; rfl) Try.underlying3 rfl (bat_ok _ _)) ?_
        | refine RW.op1 rfl (runs_conv64 (by rw [Try.underlying5]; rfl) Try.underlying3 rfl (byte_ok _)) ?_
        | refine RW.op1 rfl (runs_conv64 (by rw [Try.underlying5]; rfl) Try.underlying3 rfl (by omega)) ?_
      refine RW.op1 rfl (runs_add rfl rfl (by have := bat_lt s 7; omega)) ?_
      have hp59 := RdB.part hv (lo := 8) (hi := (8 + bat s 7).toNat) (by have := bat_lt s 7; omega) (by have := bat_lt s 7; omega)
      rw [body_of] at hp59
      refine RW.op1 rfl (RdL.slice_lh Try.underlying22 ti5 rfl rfl rfl hv (by have := bat_lt s 7; omega)) ?_
      refine RW.opE rfl (runs_appendB (Lv := []) Try.underlying22 ti5 rfl rfl hst (GrowB.nil _) hp59 (by have := bodyOf_length s; simp; omega)) ?_
      rintro u1 w ⟨Lv1, hstn, hg1⟩
      clear hst
      have hst := hstn
      clear hstn
      obtain ⟨J1, hJ1, hstn, h1⟩ := Grow.freeze hg1 hst
      clear hst
      have hst := hstn
      clear hstn
      replace hv := hv.mono hJ1
      replace hle := hle.trans hJ1
      try simp only [List.nil_append] at h1
      have h60 := h1
      refine RW.op1 rfl (runs_assign rfl) ?_
      refine RW.done ?_
      refine AQ.next ?_
      refine CW.seq ?_
      -- region 5
      refine CW.region ?_
      refine RW.op1 rfl (runs_move rfl) ?_
      refine RW.op1 rfl (runs_move rfl) ?_
      refine RW.op1 rfl (runs_move rfl) ?_
      refine RW.op1 rfl (runs_move rfl) ?_
      refine RW.op1 rfl (runs_move rfl) ?_
      refine RW.call rfl call15 rfl rfl (refSeal_spec hst (epochOf s) (seqOf s) (bat s 5) (bat s 6) h60 (by have := bodyOf_length s; omega)) ?_
      rintro e w ⟨I67, v67, hI67, rfl, hstn, h67⟩
      clear hst
      have hst := hstn
      clear hstn
      replace hv := hv.mono hI67
      replace h1 := h1.mono hI67
      replace h60 := h60.mono hI67
      replace hle := hle.trans hI67
      refine ⟨_, rfl, ?_⟩
      refine RW.op1 rfl (runs_move rfl) ?_
      refine RW.op1 rfl (runs_extract rfl rfl) ?_
      refine RW.op1 rfl (runs_extract rfl rfl) ?_
      refine RW.op1 rfl (runs_assign rfl) ?_
      refine RW.op1 rfl (runs_assign rfl) ?_
      refine RW.done ?_
      refine AQ.next ?_
      refine CW.seq ?_
      refine CW.seq ?_
      -- region 6
      refine CW.region ?_
      refine RW.op1 rfl (runs_move rfl) ?_
      refine RW.op1 rfl (runs_not rfl) ?_
      refine RW.op1 rfl (runs_move rfl) ?_
      refine RW.split (t := 72) rfl (fun hb72 => ?_) (fun hb72 => ?_)
      · have hb72p := hb72
        try simp only [decide_eq_true_eq, decide_eq_false_iff_not] at hb72p
        skip
        refine RW.off_guard rfl rfl rfl rfl hb72 ?_
        refine RW.off_guard rfl rfl rfl rfl hb72 ?_
        refine RW.off_guard rfl rfl rfl rfl hb72 ?_
        refine RW.off_guard rfl rfl rfl rfl hb72 ?_
        refine RW.off_guard rfl rfl rfl rfl hb72 ?_
        refine RW.op1 rfl (runs_pick_true rfl hb72 rfl) ?_
        refine RW.done ?_
        refine AQ.next ?_
        refine CW.cond_true rfl ?_
        refine CW.seq ?_
        -- region 7
        refine CW.region ?_
        refine RW.op1 rfl (runs_assign rfl) ?_
        refine RW.op1 rfl (runs_assign rfl) ?_
        refine RW.op1 rfl (runs_assign rfl) ?_
        refine RW.op1 rfl (runs_assign rfl) ?_
        refine RW.op1 rfl (runs_assign rfl) ?_
        refine RW.op1 rfl (runs_assign rfl) ?_
        refine RW.done ?_
        refine AQ.next ?_
        refine CW.ret ?_
        refine AQ.past_ret ?_
        refine AQ.retL (rs := [.tmp 2, .tmp 3, .tmp 4, .tmp 5, .tmp 6, .tmp 7]) (vs := [_, _, _, _, _, _]) rfl ⟨rfl, rfl, rfl, rfl, rfl, rfl, trivial⟩ (by simp) ?_
        have ho : openOk s = false := openOk_mark (by
          cases hs : sealM (epochOf s) (seqOf s) (bat s 5) (bat s 6) (bodyOf s)
          · rfl
          · rw [hs] at hb72p; exact absurd hb72p (by decide))
        rw [openR_bad ho, ho]
        exact ⟨_, _, hle, rfl, hst, RdL.nil 1⟩
      · have hb72p := hb72
        try simp only [decide_eq_true_eq, decide_eq_false_iff_not] at hb72p
        have hseal : sealM (epochOf s) (seqOf s) (bat s 5) (bat s 6) (bodyOf s) = true := by
          cases hs : sealM (epochOf s) (seqOf s) (bat s 5) (bat s 6) (bodyOf s)
          · rw [hs] at hb72p; exact absurd hb72p (by decide)
          · rfl
        rw [hseal] at h67
        refine RW.on_guard rfl rfl rfl rfl hb72 ?_
        refine RW.op1 rfl (runs_move rfl) ?_
        refine RW.on_guard rfl rfl rfl rfl hb72 ?_
        refine RW.op1 rfl (RdB.string Try.underlying22 Try.underlying5 Try.underlying9 rfl (by assumption) hst) ?_
        refine RW.on_guard rfl rfl rfl rfl hb72 ?_
        refine RW.op1 rfl (runs_move rfl) ?_
        refine RW.on_guard rfl rfl rfl rfl hb72 ?_
        refine RW.op1 rfl (RdB.string Try.underlying22 Try.underlying5 Try.underlying9 rfl (by assumption) hst) ?_
        refine RW.on_guard rfl rfl rfl rfl hb72 ?_
        refine RW.op1 rfl (runs_neS rfl rfl) ?_
        refine RW.op1 rfl (runs_pick_false rfl hb72 rfl) ?_
        refine RW.done ?_
        refine AQ.next ?_
        refine CW.cond rfl (fun hc78 => ?_) (fun hc78 => ?_)
        · have hcb78 := hc78
          try simp only [decide_eq_true_eq, decide_eq_false_iff_not] at hc78
          refine CW.seq ?_
          -- region 7
          refine CW.region ?_
          refine RW.op1 rfl (runs_assign rfl) ?_
          refine RW.op1 rfl (runs_assign rfl) ?_
          refine RW.op1 rfl (runs_assign rfl) ?_
          refine RW.op1 rfl (runs_assign rfl) ?_
          refine RW.op1 rfl (runs_assign rfl) ?_
          refine RW.op1 rfl (runs_assign rfl) ?_
          refine RW.done ?_
          refine AQ.next ?_
          refine CW.ret ?_
          refine AQ.past_ret ?_
          refine AQ.retL (rs := [.tmp 2, .tmp 3, .tmp 4, .tmp 5, .tmp 6, .tmp 7]) (vs := [_, _, _, _, _, _]) rfl ⟨rfl, rfl, rfl, rfl, rfl, rfl, trivial⟩ (by simp) ?_
          have ho : openOk s = false := openOk_ne (by simpa [hseal, strOf_toList] using hc78)
          rw [openR_bad ho, ho]
          exact ⟨_, _, hle, rfl, hst, RdL.nil 1⟩
        · have hcb78 := hc78
          try simp only [decide_eq_true_eq, decide_eq_false_iff_not] at hc78
          refine CW.skip ?_
          refine AQ.next ?_
          refine CW.seq ?_
          -- region 8
          refine CW.region ?_
          refine RW.op1 rfl (runs_move rfl) ?_
          refine RW.op1 rfl (runs_move rfl) ?_
          refine RW.op1 rfl (runs_move rfl) ?_
          refine RW.op1 rfl (runs_move rfl) ?_
          refine RW.op1 rfl (runs_move rfl) ?_
          refine RW.op1 rfl (runs_assign rfl) ?_
          refine RW.op1 rfl (runs_assign rfl) ?_
          refine RW.op1 rfl (runs_assign rfl) ?_
          refine RW.op1 rfl (runs_assign rfl) ?_
          refine RW.op1 rfl (runs_assign rfl) ?_
          refine RW.op1 rfl (runs_assign rfl) ?_
          refine RW.done ?_
          refine AQ.next ?_
          refine CW.ret ?_
          refine AQ.retL (rs := [.tmp 2, .tmp 3, .tmp 4, .tmp 5, .tmp 6, .tmp 7]) (vs := [_, _, _, _, _, _]) rfl ⟨rfl, rfl, rfl, rfl, rfl, rfl, trivial⟩ (by simp) ?_
          have ho := openOk_all hlen (by omega) hseal (by simpa [hseal, strOf_toList] using hc78)
          rw [openR_ok ho, ho]
          exact ⟨_, _, hle, rfl, hst, h60⟩
set_option maxRecDepth 100000 in
set_option maxHeartbeats 1000000 in
theorem wakes_spec {w0 w : World} {I : Imm} {L : Own} (hst : St w0 w I L) :
    Calls Try.prog 12 #[] w fun e w' => e = .returned (.bool true) ∧ ∃ I', I.le I' ∧ St w0 w' I' L := by
  refine enter Try.func12 rfl (N := 33) rfl rfl ?_
  simp only [List.zipIdx_cons, List.zipIdx_nil, List.map_cons, List.map_nil, Nat.zero_add, Nat.reduceAdd]
  have hle := Imm.le.refl I
  refine CW.seq ?_
  -- region 0
  refine CW.region ?_
  refine RW.op1 rfl (runs_assign rfl) ?_
  refine RW.done ?_
  refine AQ.next ?_
  refine CW.seq ?_
  -- region 1
  refine CW.region ?_
  refine RW.op1 rfl (runs_buildF (cells := [_, _]) bz27 rfl rfl rfl rfl rfl) ?_
  refine RW.call rfl call8 rfl rfl (seal_spec (b := []) hst 1 2 0 1 (RdL.nil 1) (by decide)) ?_
  rintro e w ⟨I1, v1, hI1, rfl, hstn, h1⟩
  clear hst
  have hst := hstn
  clear hstn
  have hs1 : sealM 1 2 0 1 [] = true := by decide
  rw [hs1] at h1 ⊢; simp only [if_true] at h1 ⊢
  have hl1 : (sealB 1 2 0 1 []).length = 32 := by decide
  replace hle := hle.trans hI1
  refine ⟨_, rfl, ?_⟩
  refine RW.op1 rfl (runs_move rfl) ?_
  refine RW.op1 rfl (runs_extract rfl rfl) ?_
  refine RW.op1 rfl (runs_extract rfl rfl) ?_
  refine RW.op1 rfl (runs_assign rfl) ?_
  refine RW.op1 rfl (runs_assign rfl) ?_
  refine RW.done ?_
  refine AQ.next ?_
  refine CW.seq ?_
  -- region 2
  refine CW.region ?_
  refine RW.op1 rfl (runs_move rfl) ?_
  refine RW.op1 rfl (runs_eqI rfl rfl) ?_
  refine RW.op1 rfl (runs_move rfl) ?_
  have hk10 := (show decide ((0 : Int) = 0) = true from by decide)
  refine RW.on_guard rfl rfl rfl rfl hk10 ?_
  refine RW.op1 rfl (runs_move rfl) ?_
  refine RW.on_guard rfl rfl rfl rfl hk10 ?_
  first
    | refine RW.op1 rfl (RdL.len Try.underlying22 rfl (by assumption)) ?_
    | refine RW.op1 rfl (runs_lenL Try.underlying22 rfl) ?_
    | refine RW.op1 rfl (Grow.len Try.underlying22 rfl (by assumption)) ?_
  refine RW.on_guard rfl rfl rfl rfl hk10 ?_
  refine RW.op1 rfl (runs_eqI rfl rfl) ?_
  refine RW.op1 rfl (runs_pick_true rfl hk10 rfl) ?_
  refine RW.op1 rfl (runs_move rfl) ?_
  have hk15 := (show decide (((sealB 1 2 0 1 []).length : Int) = 32) = true from by decide)
  refine RW.on_guard rfl rfl rfl rfl hk15 ?_
  refine RW.op1 rfl (runs_move rfl) ?_
  refine RW.on_guard rfl rfl rfl rfl hk15 ?_
  first
    | refine RW.op1 rfl (RdL.indexAddr Try.underlying22 ti5 (by decide) rfl rfl (by assumption) (by omega)) ?_
    | refine RW.op1 rfl (runs_indexAddr0 Try.underlying22 ti5 rfl rfl (by omega)) ?_
  refine RW.on_guard rfl rfl rfl rfl hk15 ?_
  first
    | refine RW.op1 rfl (runs_load1 sc5 rfl (hst.cell_imm (RdB.at (by assumption) (by omega) (by omega)))) ?_
    | refine RW.op1 rfl (runs_load1 sc5 rfl (hst.cell_own (k := 0) rfl rfl)) ?_
    | refine RW.op1 rfl (runs_load1 sc5 rfl (hst.cell_own (k := 1) rfl rfl)) ?_
    | refine RW.op1 rfl (runs_load1 sc5 rfl (hst.cell_own (k := 2) rfl rfl)) ?_
  refine RW.on_guard rfl rfl rfl rfl hk15 ?_
  refine RW.op1 rfl (runs_eqI rfl rfl) ?_
  refine RW.op1 rfl (runs_pick_true rfl hk15 rfl) ?_
  refine RW.op1 rfl (runs_move rfl) ?_
  have hk21 := (show decide (bat (sealB 1 2 0 1 []) 1 = 1) = true from by decide)
  refine RW.on_guard rfl rfl rfl rfl hk21 ?_
  refine RW.op1 rfl (runs_move rfl) ?_
  refine RW.on_guard rfl rfl rfl rfl hk21 ?_
  first
    | refine RW.op1 rfl (RdL.indexAddr Try.underlying22 ti5 (by decide) rfl rfl (by assumption) (by omega)) ?_
    | refine RW.op1 rfl (runs_indexAddr0 Try.underlying22 ti5 rfl rfl (by omega)) ?_
  refine RW.on_guard rfl rfl rfl rfl hk21 ?_
  first
    | refine RW.op1 rfl (runs_load1 sc5 rfl (hst.cell_imm (RdB.at (by assumption) (by omega) (by omega)))) ?_
    | refine RW.op1 rfl (runs_load1 sc5 rfl (hst.cell_own (k := 0) rfl rfl)) ?_
    | refine RW.op1 rfl (runs_load1 sc5 rfl (hst.cell_own (k := 1) rfl rfl)) ?_
    | refine RW.op1 rfl (runs_load1 sc5 rfl (hst.cell_own (k := 2) rfl rfl)) ?_
  refine RW.on_guard rfl rfl rfl rfl hk21 ?_
  refine RW.op1 rfl (runs_eqI rfl rfl) ?_
  refine RW.op1 rfl (runs_pick_true rfl hk21 rfl) ?_
  refine RW.op1 rfl (runs_move rfl) ?_
  have hk27 := (show decide (bat (sealB 1 2 0 1 []) 4 = 2) = true from by decide)
  refine RW.on_guard rfl rfl rfl rfl hk27 ?_
  refine RW.op1 rfl (runs_move rfl) ?_
  refine RW.on_guard rfl rfl rfl rfl hk27 ?_
  first
    | refine RW.op1 rfl (RdL.indexAddr Try.underlying22 ti5 (by decide) rfl rfl (by assumption) (by omega)) ?_
    | refine RW.op1 rfl (runs_indexAddr0 Try.underlying22 ti5 rfl rfl (by omega)) ?_
  refine RW.on_guard rfl rfl rfl rfl hk27 ?_
  first
    | refine RW.op1 rfl (runs_load1 sc5 rfl (hst.cell_imm (RdB.at (by assumption) (by omega) (by omega)))) ?_
    | refine RW.op1 rfl (runs_load1 sc5 rfl (hst.cell_own (k := 0) rfl rfl)) ?_
    | refine RW.op1 rfl (runs_load1 sc5 rfl (hst.cell_own (k := 1) rfl rfl)) ?_
    | refine RW.op1 rfl (runs_load1 sc5 rfl (hst.cell_own (k := 2) rfl rfl)) ?_
  refine RW.on_guard rfl rfl rfl rfl hk27 ?_
  refine RW.op1 rfl (runs_eqI rfl rfl) ?_
  refine RW.op1 rfl (runs_pick_true rfl hk27 rfl) ?_
  refine RW.op1 rfl (runs_assign rfl) ?_
  refine RW.done ?_
  refine AQ.next ?_
  refine CW.ret ?_
  refine AQ.ret1 rfl rfl ?_
  rw [show decide (bat (sealB 1 2 0 1 []) 31 = 1) = true from by decide]
  exact ⟨rfl, _, hle, hst⟩
set_option maxRecDepth 100000 in
set_option maxHeartbeats 1000000 in
theorem halves_spec {w0 w : World} {I : Imm} {L : Own} (hst : St w0 w I L) (a b c d x y : Int) (ha : i64ok a) (hb : i64ok b) (hc : i64ok c) (hd : i64ok d) (hx : i64ok x) (hy : i64ok y) :
    Calls Try.prog 5 #[.int .i64 a, .int .i64 b, .int .i64 c, .int .i64 d, .int .i64 x, .int .i64 y] w fun e w' => e = .returned (.bool true) ∧ ∃ I', I.le I' ∧ St w0 w' I' L := by
  unfold i64ok at ha hb hc hd hx hy
  refine enter Try.func5 rfl (N := 129) rfl rfl ?_
  simp only [List.zipIdx_cons, List.zipIdx_nil, List.map_cons, List.map_nil, Nat.zero_add, Nat.reduceAdd]
  have hle := Imm.le.refl I
  refine CW.seq ?_
  -- region 0
  refine CW.region ?_
  refine RW.op1 rfl (runs_assign rfl) ?_
  refine RW.done ?_
  refine AQ.next ?_
  refine CW.seq ?_
  -- region 1
  refine CW.region ?_
  refine RW.op1 rfl (runs_assign rfl) ?_
  refine RW.done ?_
  refine AQ.next ?_
  refine CW.seq ?_
  -- region 2
  refine CW.region ?_
  refine RW.op1 rfl (runs_move rfl) ?_
  refine RW.op1 rfl (runs_move rfl) ?_
  refine RW.call rfl call10 rfl rfl (within_spec hst (v := a) (n := 65535) (by unfold i64ok; omega) (by unfold i64ok; omega)) ?_
  rintro e w ⟨rfl, hstn⟩
  clear hst
  have hst := hstn
  clear hstn
  have hw32 := within_range a 65535
  refine ⟨_, rfl, ?_⟩
  refine RW.op1 rfl (runs_add rfl rfl (by omega)) ?_
  refine RW.op1 rfl (runs_move rfl) ?_
  refine RW.op1 rfl (runs_move rfl) ?_
  refine RW.call rfl call10 rfl rfl (within_spec hst (v := b) (n := 16777216) (by unfold i64ok; omega) (by unfold i64ok; omega)) ?_
  rintro e w ⟨rfl, hstn⟩
  clear hst
  have hst := hstn
  clear hstn
  have hw36 := within_range b 16777216
  refine ⟨_, rfl, ?_⟩
  refine RW.op1 rfl (runs_buildF (cells := [_, _]) bz27 rfl rfl rfl rfl rfl) ?_
  refine RW.op1 rfl (runs_move rfl) ?_
  refine RW.op1 rfl (runs_move rfl) ?_
  refine RW.call rfl call10 rfl rfl (within_spec hst (v := c) (n := 65535) (by unfold i64ok; omega) (by unfold i64ok; omega)) ?_
  rintro e w ⟨rfl, hstn⟩
  clear hst
  have hst := hstn
  clear hstn
  have hw40 := within_range c 65535
  refine ⟨_, rfl, ?_⟩
  refine RW.op1 rfl (runs_add rfl rfl (by omega)) ?_
  refine RW.op1 rfl (runs_move rfl) ?_
  refine RW.op1 rfl (runs_move rfl) ?_
  refine RW.call rfl call10 rfl rfl (within_spec hst (v := d) (n := 16777216) (by unfold i64ok; omega) (by unfold i64ok; omega)) ?_
  rintro e w ⟨rfl, hstn⟩
  clear hst
  have hst := hstn
  clear hstn
  have hw44 := within_range d 16777216
  refine ⟨_, rfl, ?_⟩
  refine RW.op1 rfl (runs_buildF (cells := [_, _]) bz27 rfl rfl rfl rfl rfl) ?_
  refine RW.opE rfl (runs_alloc ti27 hst) ?_
  rintro _ w ⟨b5, rfl, hstn⟩
  clear hst
  have hst := hstn
  clear hstn
  refine RW.opE rfl (runs_alloc ti27 hst) ?_
  rintro _ w ⟨b6, rfl, hstn⟩
  clear hst
  have hst := hstn
  clear hstn
  first
    | refine RW.opE0 (runs_storeW ti27 rfl rfl hst (k := 0) rfl rfl rfl (NoFz.zero _) rfl) ?_
    | refine RW.opE0 (runs_storeP ti27 rfl rfl hst (k := 0) rfl rfl rfl (NoFz.zero _) rfl) ?_
    | refine RW.opE0 (runs_storeW ti27 rfl rfl hst (k := 1) rfl rfl rfl (NoFz.zero _) rfl) ?_
    | refine RW.opE0 (runs_storeP ti27 rfl rfl hst (k := 1) rfl rfl rfl (NoFz.zero _) rfl) ?_
    | refine RW.opE0 (runs_storeW ti27 rfl rfl hst (k := 2) rfl rfl rfl (NoFz.zero _) rfl) ?_
    | refine RW.opE0 (runs_storeP ti27 rfl rfl hst (k := 2) rfl rfl rfl (NoFz.zero _) rfl) ?_
  rintro w hstn
  clear hst
  have hst := hstn
  clear hstn
  try simp only [List.set_cons_zero, List.set_cons_succ] at hst
  first
    | refine RW.opE0 (runs_storeW ti27 rfl rfl hst (k := 0) rfl rfl rfl (NoFz.zero _) rfl) ?_
    | refine RW.opE0 (runs_storeP ti27 rfl rfl hst (k := 0) rfl rfl rfl (NoFz.zero _) rfl) ?_
    | refine RW.opE0 (runs_storeW ti27 rfl rfl hst (k := 1) rfl rfl rfl (NoFz.zero _) rfl) ?_
    | refine RW.opE0 (runs_storeP ti27 rfl rfl hst (k := 1) rfl rfl rfl (NoFz.zero _) rfl) ?_
    | refine RW.opE0 (runs_storeW ti27 rfl rfl hst (k := 2) rfl rfl rfl (NoFz.zero _) rfl) ?_
    | refine RW.opE0 (runs_storeP ti27 rfl rfl hst (k := 2) rfl rfl rfl (NoFz.zero _) rfl) ?_
  rintro w hstn
  clear hst
  have hst := hstn
  clear hstn
  try simp only [List.set_cons_zero, List.set_cons_succ] at hst
  refine RW.done ?_
  refine AQ.next ?_
  refine CW.seq ?_
  -- region 3
  refine CW.drawSt hst (.q 0 (.q 1 (.q 2 (.q 3 (.l 4 (.l 5 (.l 6 (.q 7 (.q 8 (.q 9 (.q 10 (.q 11 .nil)))))))))))) follows (by kernel_rfl) (fun w hst => ?_)
  first
    | refine DRW.q rfl rfl (FSt.loadN (vs := [_, _]) ag27 ti27 rfl (k := 0) rfl rfl rfl) ?_
    | refine DRW.q rfl rfl (FSt.loadN (vs := [_, _]) ag27 ti27 rfl (k := 1) rfl rfl rfl) ?_
    | refine DRW.q rfl rfl (FSt.loadN (vs := [_, _]) ag27 ti27 rfl (k := 2) rfl rfl rfl) ?_
  refine DRW.q rfl rfl (fun w' hF => runs_move rfl) ?_
  refine DRW.q rfl rfl (fun w' hF => runs_move rfl) ?_
  refine DRW.q rfl rfl (fun w' hF => runs_move rfl) ?_
  refine DRW.call rfl rfl call10 rfl rfl (within_spec hst (v := x) (n := 20) (by unfold i64ok; omega) (by unfold i64ok; omega)) ?_
  rintro e w ⟨rfl, hstn⟩
  clear hst
  have hst := hstn
  clear hstn
  have hw51 := within_range x 20
  refine ⟨_, rfl, FSt.of hst (Imm.le.refl _) (by first | exact (List.sublist_cons_self _ _).trans (List.sublist_append_right _ _) | exact List.Sublist.refl _ | exact List.sublist_cons_self _ _ | exact List.sublist_append_right _ _ | exact (List.sublist_cons_self _ _).trans (List.sublist_cons_self _ _) | exact (List.sublist_append_right _ _).trans (List.sublist_cons_self _ _) | simp), ?_⟩
  refine DRW.call rfl rfl call14 rfl rfl (bytes_spec hst x (within x 20) (by unfold i64ok; omega) (by omega)) ?_
  rintro e w ⟨I10, wS, hI10, rfl, hstn, hBS⟩
  clear hst
  have hst := hstn
  clear hstn
  replace hle := hle.trans hI10
  refine ⟨_, rfl, FSt.of hst hI10 (by first | exact (List.sublist_cons_self _ _).trans (List.sublist_append_right _ _) | exact List.Sublist.refl _ | exact List.sublist_cons_self _ _ | exact List.sublist_append_right _ _ | exact (List.sublist_cons_self _ _).trans (List.sublist_cons_self _ _) | exact (List.sublist_append_right _ _).trans (List.sublist_cons_self _ _) | simp), ?_⟩
  refine DRW.call rfl rfl call8 rfl rfl (seal_spec hst (1 + within a 65535) (within b 16777216) 0 1 hBS (by rw [bytesOf_length]; omega)) ?_
  rintro e w ⟨I11, vS, hI11, rfl, hstn, hS⟩
  clear hst
  have hst := hstn
  clear hstn
  have hsS : sealM (1 + within a 65535) (within b 16777216) 0 1 (bytesOf x (within x 20)) = true := sealM_of (by omega) (by omega) (by decide) (by rw [bytesOf_length]; omega)
  rw [hsS] at hS ⊢; simp only [if_true] at hS ⊢
  have hlS : (sealB (1 + within a 65535) (within b 16777216) 0 1 (bytesOf x (within x 20))).length = 32 := sealB_length (by rw [bytesOf_length]; omega)
  clear hBS
  replace hle := hle.trans hI11
  refine ⟨_, rfl, FSt.of hst (hI10.trans hI11) (by first | exact (List.sublist_cons_self _ _).trans (List.sublist_append_right _ _) | exact List.Sublist.refl _ | exact List.sublist_cons_self _ _ | exact List.sublist_append_right _ _ | exact (List.sublist_cons_self _ _).trans (List.sublist_cons_self _ _) | exact (List.sublist_append_right _ _).trans (List.sublist_cons_self _ _) | simp), ?_⟩
  refine DRW.q rfl rfl (fun w' hF => runs_move rfl) ?_
  refine DRW.q rfl rfl (fun w' hF => runs_extract rfl rfl) ?_
  refine DRW.q rfl rfl (fun w' hF => runs_extract rfl rfl) ?_
  refine DRW.q rfl rfl (fun w' hF => runs_assign rfl) ?_
  refine DRW.q rfl rfl (fun w' hF => runs_assign rfl) ?_
  refine DRW.done ?_
  refine AQ.next ?_
  refine CW.seq ?_
  -- region 4
  refine CW.drawSt hst (.q 0 (.q 1 (.q 2 (.q 3 (.l 4 (.l 5 (.l 6 (.q 7 (.q 8 (.q 9 (.q 10 (.q 11 .nil)))))))))))) follows (by kernel_rfl) (fun w hst => ?_)
  first
    | refine DRW.q rfl rfl (FSt.loadN (vs := [_, _]) ag27 ti27 rfl (k := 0) rfl rfl rfl) ?_
    | refine DRW.q rfl rfl (FSt.loadN (vs := [_, _]) ag27 ti27 rfl (k := 1) rfl rfl rfl) ?_
    | refine DRW.q rfl rfl (FSt.loadN (vs := [_, _]) ag27 ti27 rfl (k := 2) rfl rfl rfl) ?_
  refine DRW.q rfl rfl (fun w' hF => runs_move rfl) ?_
  refine DRW.q rfl rfl (fun w' hF => runs_move rfl) ?_
  refine DRW.q rfl rfl (fun w' hF => runs_move rfl) ?_
  refine DRW.call rfl rfl call10 rfl rfl (within_spec hst (v := y) (n := 20) (by unfold i64ok; omega) (by unfold i64ok; omega)) ?_
  rintro e w ⟨rfl, hstn⟩
  clear hst
  have hst := hstn
  clear hstn
  have hw61 := within_range y 20
  refine ⟨_, rfl, FSt.of hst (Imm.le.refl _) (by first | exact (List.sublist_cons_self _ _).trans (List.sublist_append_right _ _) | exact List.Sublist.refl _ | exact List.sublist_cons_self _ _ | exact List.sublist_append_right _ _ | exact (List.sublist_cons_self _ _).trans (List.sublist_cons_self _ _) | exact (List.sublist_append_right _ _).trans (List.sublist_cons_self _ _) | simp), ?_⟩
  refine DRW.call rfl rfl call14 rfl rfl (bytes_spec hst y (within y 20) (by unfold i64ok; omega) (by omega)) ?_
  rintro e w ⟨I13, wT, hI13, rfl, hstn, hBT⟩
  clear hst
  have hst := hstn
  clear hstn
  replace hS := hS.mono hI13
  replace hle := hle.trans hI13
  refine ⟨_, rfl, FSt.of hst hI13 (by first | exact (List.sublist_cons_self _ _).trans (List.sublist_append_right _ _) | exact List.Sublist.refl _ | exact List.sublist_cons_self _ _ | exact List.sublist_append_right _ _ | exact (List.sublist_cons_self _ _).trans (List.sublist_cons_self _ _) | exact (List.sublist_append_right _ _).trans (List.sublist_cons_self _ _) | simp), ?_⟩
  refine DRW.call rfl rfl call8 rfl rfl (seal_spec hst (1 + within c 65535) (within d 16777216) 0 1 hBT (by rw [bytesOf_length]; omega)) ?_
  rintro e w ⟨I14, vT, hI14, rfl, hstn, hT⟩
  clear hst
  have hst := hstn
  clear hstn
  have hsT : sealM (1 + within c 65535) (within d 16777216) 0 1 (bytesOf y (within y 20)) = true := sealM_of (by omega) (by omega) (by decide) (by rw [bytesOf_length]; omega)
  rw [hsT] at hT ⊢; simp only [if_true] at hT ⊢
  have hlT : (sealB (1 + within c 65535) (within d 16777216) 0 1 (bytesOf y (within y 20))).length = 32 := sealB_length (by rw [bytesOf_length]; omega)
  clear hBT
  replace hS := hS.mono hI14
  replace hle := hle.trans hI14
  refine ⟨_, rfl, FSt.of hst (hI13.trans hI14) (by first | exact (List.sublist_cons_self _ _).trans (List.sublist_append_right _ _) | exact List.Sublist.refl _ | exact List.sublist_cons_self _ _ | exact List.sublist_append_right _ _ | exact (List.sublist_cons_self _ _).trans (List.sublist_cons_self _ _) | exact (List.sublist_append_right _ _).trans (List.sublist_cons_self _ _) | simp), ?_⟩
  refine DRW.q rfl rfl (fun w' hF => runs_move rfl) ?_
  refine DRW.q rfl rfl (fun w' hF => runs_extract rfl rfl) ?_
  refine DRW.q rfl rfl (fun w' hF => runs_extract rfl rfl) ?_
  refine DRW.q rfl rfl (fun w' hF => runs_assign rfl) ?_
  refine DRW.q rfl rfl (fun w' hF => runs_assign rfl) ?_
  refine DRW.done ?_
  refine AQ.next ?_
  refine CW.seq ?_
  refine CW.seq ?_
  -- region 5
  refine CW.region ?_
  refine RW.op1 rfl (runs_move rfl) ?_
  refine RW.op1 rfl (runs_neI rfl rfl) ?_
  refine RW.op1 rfl (runs_move rfl) ?_
  have hk68 := (show decide ((0 : Int) ≠ 0) = false from by decide)
  refine RW.on_guard rfl rfl rfl rfl hk68 ?_
  refine RW.op1 rfl (runs_move rfl) ?_
  refine RW.on_guard rfl rfl rfl rfl hk68 ?_
  refine RW.op1 rfl (runs_neI rfl rfl) ?_
  refine RW.op1 rfl (runs_pick_false rfl hk68 rfl) ?_
  refine RW.op1 rfl (runs_move rfl) ?_
  have hk72 := (show decide ((0 : Int) ≠ 0) = false from by decide)
  refine RW.on_guard rfl rfl rfl rfl hk72 ?_
  refine RW.op1 rfl (runs_move rfl) ?_
  refine RW.on_guard rfl rfl rfl rfl hk72 ?_
  first
    | refine RW.op1 rfl (RdL.len Try.underlying22 rfl (by assumption)) ?_
    | refine RW.op1 rfl (runs_lenL Try.underlying22 rfl) ?_
    | refine RW.op1 rfl (Grow.len Try.underlying22 rfl (by assumption)) ?_
  refine RW.on_guard rfl rfl rfl rfl hk72 ?_
  refine RW.op1 rfl (runs_neI rfl rfl) ?_
  refine RW.op1 rfl (runs_pick_false rfl hk72 rfl) ?_
  refine RW.op1 rfl (runs_move rfl) ?_
  have hk77 := (decide_eq_false (show ¬ (((sealB (1 + within a 65535) (within b 16777216) 0 1 (bytesOf x (within x 20))).length : Nat) : Int) ≠ 32 by omega))
  refine RW.on_guard rfl rfl rfl rfl hk77 ?_
  refine RW.op1 rfl (runs_move rfl) ?_
  refine RW.on_guard rfl rfl rfl rfl hk77 ?_
  first
    | refine RW.op1 rfl (RdL.len Try.underlying22 rfl (by assumption)) ?_
    | refine RW.op1 rfl (runs_lenL Try.underlying22 rfl) ?_
    | refine RW.op1 rfl (Grow.len Try.underlying22 rfl (by assumption)) ?_
  refine RW.on_guard rfl rfl rfl rfl hk77 ?_
  refine RW.op1 rfl (runs_neI rfl rfl) ?_
  refine RW.op1 rfl (runs_pick_false rfl hk77 rfl) ?_
  refine RW.op1 rfl (runs_move rfl) ?_
  have hk82 := (decide_eq_false (show ¬ (((sealB (1 + within c 65535) (within d 16777216) 0 1 (bytesOf y (within y 20))).length : Nat) : Int) ≠ 32 by omega))
  refine RW.on_guard rfl rfl rfl rfl hk82 ?_
  first
    | refine RW.op1 rfl (runs_loadN (vs := [_, _]) ag27 ti27 rfl hst (k := 0) rfl rfl rfl) ?_
    | refine RW.op1 rfl (runs_loadN (vs := [_, _]) ag27 ti27 rfl hst (k := 1) rfl rfl rfl) ?_
    | refine RW.op1 rfl (runs_loadN (vs := [_, _]) ag27 ti27 rfl hst (k := 2) rfl rfl rfl) ?_
  refine RW.on_guard rfl rfl rfl rfl hk82 ?_
  first
    | refine RW.op1 rfl (runs_loadN (vs := [_, _]) ag27 ti27 rfl hst (k := 0) rfl rfl rfl) ?_
    | refine RW.op1 rfl (runs_loadN (vs := [_, _]) ag27 ti27 rfl hst (k := 1) rfl rfl rfl) ?_
    | refine RW.op1 rfl (runs_loadN (vs := [_, _]) ag27 ti27 rfl hst (k := 2) rfl rfl rfl) ?_
  refine RW.on_guard rfl rfl rfl rfl hk82 ?_
  refine RW.op1 rfl (runs_eqZ (xs := [_, _]) (ys := [_, _]) ez27 rfl rfl rfl rfl) ?_
  refine RW.op1 rfl (runs_pick_false rfl hk82 rfl) ?_
  refine RW.done ?_
  refine AQ.next ?_
  refine CW.cond rfl (fun hc86 => ?_) (fun hc86 => ?_)
  · have hcb86 := hc86
    try simp only [decide_eq_true_eq, decide_eq_false_iff_not] at hc86
    refine CW.seq ?_
    -- region 6
    refine CW.region ?_
    refine RW.op1 rfl (runs_move rfl) ?_
    refine RW.op1 rfl (runs_eqI rfl rfl) ?_
    refine RW.op1 rfl (runs_move rfl) ?_
    have hk89 := (show decide ((0 : Int) = 0) = true from by decide)
    refine RW.on_guard rfl rfl rfl rfl hk89 ?_
    refine RW.op1 rfl (runs_move rfl) ?_
    refine RW.on_guard rfl rfl rfl rfl hk89 ?_
    refine RW.op1 rfl (runs_eqI rfl rfl) ?_
    refine RW.op1 rfl (runs_pick_true rfl hk89 rfl) ?_
    refine RW.op1 rfl (runs_move rfl) ?_
    have hk93 := (show decide ((0 : Int) = 0) = true from by decide)
    refine RW.on_guard rfl rfl rfl rfl hk93 ?_
    refine RW.call rfl call12 rfl rfl (wakes_spec hst) ?_
    rintro e w ⟨rfl, I15, hI15, hstn⟩
    clear hst
    have hst := hstn
    clear hstn
    replace hS := hS.mono hI15
    replace hT := hT.mono hI15
    replace hle := hle.trans hI15
    refine ⟨_, rfl, ?_⟩
    refine RW.op1 rfl (runs_pick_true rfl hk93 rfl) ?_
    refine RW.op1 rfl (runs_assign rfl) ?_
    refine RW.done ?_
    refine AQ.next ?_
    refine CW.ret ?_
    refine AQ.past_ret ?_
    refine AQ.ret1 rfl rfl ?_
    exact ⟨rfl, _, hle, hst.sub (by first | exact List.Sublist.refl _ | exact List.sublist_cons_self _ _ | exact (List.sublist_cons_self _ _).trans (List.sublist_cons_self _ _) | exact (List.sublist_cons_self _ _).trans ((List.sublist_cons_self _ _).trans (List.sublist_cons_self _ _)) | exact (List.sublist_cons_self _ _).trans ((List.sublist_cons_self _ _).trans ((List.sublist_cons_self _ _).trans (List.sublist_cons_self _ _))))⟩
  · have hcb86 := hc86
    try simp only [decide_eq_true_eq, decide_eq_false_iff_not] at hc86
    refine CW.skip ?_
    refine AQ.next ?_
    refine CW.seq ?_
    -- region 7
    refine CW.drawSt hst (.q 0 (.q 1 (.q 3 (.q 4 (.fork (.l 2 (.fork (.l 5 (.fork (.l 6 (.q 7 (.q 8 (.q 9 (.q 10 (.q 11 (.q 12 (.l 13 (.l 14 (.q 15 (.q 16 (.q 17 (.q 18 .nil))))))))))))) (.l 13 (.l 6 (.q 7 (.q 8 (.q 9 (.q 10 (.q 11 (.q 12 (.l 14 (.q 15 (.q 16 (.q 17 (.q 18 .nil))))))))))))))) (.l 13 (.l 5 (.l 6 (.q 7 (.q 8 (.q 9 (.q 10 (.q 11 (.q 12 (.l 14 (.q 15 (.q 16 (.q 17 (.q 18 .nil)))))))))))))))) (.l 13 (.l 2 (.l 5 (.l 6 (.q 7 (.q 8 (.q 9 (.q 10 (.q 11 (.q 12 (.l 14 (.q 15 (.q 16 (.q 17 (.q 18 .nil)))))))))))))))))))) follows (by kernel_rfl) (fun w hst => ?_)
    refine DRW.q rfl rfl (fun w' hF => runs_move rfl) ?_
    have hp98 : RdB _ (partV vS 0 (16 : Int).toNat 1) ((sealB (1 + within a 65535) (within b 16777216) 0 1 (bytesOf x (within x 20))).take 16) := RdB.part hS (by omega) (by omega)
    refine DRW.q rfl rfl (fun w' hF => RdL.slice_h Try.underlying22 ti5 rfl rfl hS (by omega)) ?_
    refine DRW.q rfl rfl (fun w' hF => runs_move rfl) ?_
    have hp101 := RdB.part hT (lo := (16 : Int).toNat) (hi := (sealB (1 + within c 65535) (within d 16777216) 0 1 (bytesOf y (within y 20))).length) (by omega) (by omega)
    rw [List.take_of_length_le (by rw [List.length_drop]; omega)] at hp101
    replace hp101 : RdB _ _ ((sealB (1 + within c 65535) (within d 16777216) 0 1 (bytesOf y (within y 20))).drop 16) := hp101
    refine DRW.q rfl rfl (fun w' hF => RdL.slice_l Try.underlying22 ti5 rfl rfl hT (by omega)) ?_
    refine DRW.fork ?_ ?_
    · refine DRW.opE rfl rfl (runs_appendB (Lv := []) Try.underlying22 ti5 rfl rfl hst (GrowB.nil _) (by assumption) (by (try simp) <;> omega)) ?_
      rintro u16 w ⟨Lv16, hstn, hg16⟩
      clear hst
      have hst := hstn
      clear hstn
      refine ⟨FSt.of hst (Imm.le.refl _) (by first | exact (List.sublist_cons_self _ _).trans (List.sublist_append_right _ _) | exact List.Sublist.refl _ | exact List.sublist_cons_self _ _ | exact List.sublist_append_right _ _ | exact (List.sublist_cons_self _ _).trans (List.sublist_cons_self _ _) | exact (List.sublist_append_right _ _).trans (List.sublist_cons_self _ _) | simp), ?_⟩
      refine DRW.fork ?_ ?_
      · refine DRW.opE rfl rfl (runs_appendB Try.underlying22 ti5 rfl rfl hst (by assumption) (by assumption) (by (try simp) <;> omega)) ?_
        rintro u17 w ⟨Lv17, hstn, hg17⟩
        clear hst
        have hst := hstn
        clear hstn
        refine ⟨FSt.of hst (Imm.le.refl _) (by first | exact (List.sublist_cons_self _ _).trans (List.sublist_append_right _ _) | exact List.Sublist.refl _ | exact List.sublist_cons_self _ _ | exact List.sublist_append_right _ _ | exact (List.sublist_cons_self _ _).trans (List.sublist_cons_self _ _) | exact (List.sublist_append_right _ _).trans (List.sublist_cons_self _ _) | simp), ?_⟩
        obtain ⟨J17, hJ17, hstn, h17⟩ := Grow.freeze hg17 hst
        clear hst
        have hst := hstn
        clear hstn
        replace hS := hS.mono hJ17
        replace hT := hT.mono hJ17
        replace hle := hle.trans hJ17
        try simp only [List.nil_append] at h17
        have hAo : openOk ((sealB (1 + within a 65535) (within b 16777216) 0 1 (bytesOf x (within x 20))).take 16 ++ (sealB (1 + within c 65535) (within d 16777216) 0 1 (bytesOf y (within y 20))).drop 16) = false := halves_not hsS hsT (by simpa using hc86) 16 (by decide)
        have hA := h17
        refine DRW.fork ?_ ?_
        · refine DRW.call rfl rfl call11 rfl rfl (open_spec hst hA (by rw [List.length_append, List.length_take, List.length_drop]; omega)) ?_
          rintro e w ⟨I18, v18, hI18, rfl, hstn, h18⟩
          clear hst
          have hst := hstn
          clear hstn
          rw [openR_bad hAo] at h18 ⊢
          replace hS := hS.mono hI18
          replace hT := hT.mono hI18
          replace h17 := h17.mono hI18
          replace hA := hA.mono hI18
          replace hle := hle.trans hI18
          refine ⟨_, rfl, FSt.of hst (hJ17.trans hI18) (by first | exact (List.sublist_cons_self _ _).trans (List.sublist_append_right _ _) | exact List.Sublist.refl _ | exact List.sublist_cons_self _ _ | exact List.sublist_append_right _ _ | exact (List.sublist_cons_self _ _).trans (List.sublist_cons_self _ _) | exact (List.sublist_append_right _ _).trans (List.sublist_cons_self _ _) | simp), ?_⟩
          refine DRW.q rfl rfl (fun w' hF => runs_move rfl) ?_
          refine DRW.q rfl rfl (fun w' hF => runs_extract rfl rfl) ?_
          refine DRW.q rfl rfl (fun w' hF => runs_extract rfl rfl) ?_
          refine DRW.q rfl rfl (fun w' hF => runs_extract rfl rfl) ?_
          refine DRW.q rfl rfl (fun w' hF => runs_extract rfl rfl) ?_
          refine DRW.q rfl rfl (fun w' hF => runs_extract rfl rfl) ?_
          refine DRW.opE rfl rfl (runs_alloc ti27 hst) ?_
          rintro _ w ⟨b19, rfl, hstn⟩
          clear hst
          have hst := hstn
          clear hstn
          refine ⟨FSt.of hst (hJ17.trans hI18) (by first | exact (List.sublist_cons_self _ _).trans (List.sublist_append_right _ _) | exact List.Sublist.refl _ | exact List.sublist_cons_self _ _ | exact List.sublist_append_right _ _ | exact (List.sublist_cons_self _ _).trans (List.sublist_cons_self _ _) | exact (List.sublist_append_right _ _).trans (List.sublist_cons_self _ _) | simp), ?_⟩
          first
            | refine DRW.opE0 rfl (runs_storeW ti27 rfl rfl hst (k := 0) rfl rfl rfl (NoFz.zero _) rfl) ?_
            | refine DRW.opE0 rfl (runs_storeP ti27 rfl rfl hst (k := 0) rfl rfl rfl (NoFz.zero _) rfl) ?_
            | refine DRW.opE0 rfl (runs_storeW ti27 rfl rfl hst (k := 1) rfl rfl rfl (NoFz.zero _) rfl) ?_
            | refine DRW.opE0 rfl (runs_storeP ti27 rfl rfl hst (k := 1) rfl rfl rfl (NoFz.zero _) rfl) ?_
            | refine DRW.opE0 rfl (runs_storeW ti27 rfl rfl hst (k := 2) rfl rfl rfl (NoFz.zero _) rfl) ?_
            | refine DRW.opE0 rfl (runs_storeP ti27 rfl rfl hst (k := 2) rfl rfl rfl (NoFz.zero _) rfl) ?_
          rintro w hstn
          clear hst
          have hst := hstn
          clear hstn
          try simp only [List.set_cons_zero, List.set_cons_succ] at hst
          refine ⟨FSt.of hst (hJ17.trans hI18) (by first | exact (List.sublist_cons_self _ _).trans (List.sublist_append_right _ _) | exact List.Sublist.refl _ | exact List.sublist_cons_self _ _ | exact List.sublist_append_right _ _ | exact (List.sublist_cons_self _ _).trans (List.sublist_cons_self _ _) | exact (List.sublist_append_right _ _).trans (List.sublist_cons_self _ _) | simp), ?_⟩
          refine DRW.q rfl rfl (fun w' hF => runs_assign rfl) ?_
          refine DRW.q rfl rfl (fun w' hF => runs_assign rfl) ?_
          refine DRW.q rfl rfl (fun w' hF => runs_assign rfl) ?_
          refine DRW.q rfl rfl (fun w' hF => runs_assign rfl) ?_
          refine DRW.done ?_
          refine AQ.next ?_
          refine CW.seq ?_
          -- region 8
          refine CW.region ?_
          refine RW.op1 rfl (runs_move rfl) ?_
          have hp111 : RdB _ (partV vS 0 (16 : Int).toNat 1) ((sealB (1 + within a 65535) (within b 16777216) 0 1 (bytesOf x (within x 20))).take 16) := RdB.part hS (by omega) (by omega)
          refine RW.op1 rfl (RdL.slice_h Try.underlying22 ti5 rfl rfl hS (by omega)) ?_
          refine RW.opE rfl (runs_appendB (Lv := []) Try.underlying22 ti5 rfl rfl hst (GrowB.nil _) (by assumption) (by (try simp) <;> omega)) ?_
          rintro u21 w ⟨Lv21, hstn, hg21⟩
          clear hst
          have hst := hstn
          clear hstn
          refine RW.opE rfl (runs_appendZ (m := 16) Try.underlying22 ti5 Try.underlying3 rfl rfl hst (by assumption) (by simp <;> omega)) ?_
          rintro u22 w ⟨Lv22, hstn, hg22⟩
          clear hst
          have hst := hstn
          clear hstn
          obtain ⟨J22, hJ22, hstn, h22⟩ := Grow.freeze hg22 hst
          clear hst
          have hst := hstn
          clear hstn
          replace hS := hS.mono hJ22
          replace hT := hT.mono hJ22
          replace h17 := h17.mono hJ22
          replace hA := hA.mono hJ22
          replace h18 := h18.mono hJ22
          replace hle := hle.trans hJ22
          try simp only [List.nil_append] at h22
          have hBo : openOk ((sealB (1 + within a 65535) (within b 16777216) 0 1 (bytesOf x (within x 20))).take 16 ++ List.replicate (32 - 16) 0) = false := zeros_not hsS (by omega) 16 (by decide)
          have hB := h22
          refine RW.call rfl call11 rfl rfl (open_spec hst (s := (sealB (1 + within a 65535) (within b 16777216) 0 1 (bytesOf x (within x 20))).take 16 ++ List.replicate (32 - 16) 0) hB (by rw [List.length_append, List.length_take, List.length_replicate]; omega)) ?_
          rintro e w ⟨I23, v23, hI23, rfl, hstn, h23⟩
          clear hst
          have hst := hstn
          clear hstn
          rw [openR_bad hBo] at h23 ⊢
          replace hS := hS.mono hI23
          replace hT := hT.mono hI23
          replace h17 := h17.mono hI23
          replace hA := hA.mono hI23
          replace h18 := h18.mono hI23
          replace h22 := h22.mono hI23
          replace hB := hB.mono hI23
          replace hle := hle.trans hI23
          refine ⟨_, rfl, ?_⟩
          refine RW.op1 rfl (runs_move rfl) ?_
          refine RW.op1 rfl (runs_extract rfl rfl) ?_
          refine RW.op1 rfl (runs_extract rfl rfl) ?_
          refine RW.op1 rfl (runs_extract rfl rfl) ?_
          refine RW.op1 rfl (runs_extract rfl rfl) ?_
          refine RW.op1 rfl (runs_extract rfl rfl) ?_
          refine RW.opE rfl (runs_alloc ti27 hst) ?_
          rintro _ w ⟨b24, rfl, hstn⟩
          clear hst
          have hst := hstn
          clear hstn
          first
            | refine RW.opE0 (runs_storeW ti27 rfl rfl hst (k := 0) rfl rfl rfl (NoFz.zero _) rfl) ?_
            | refine RW.opE0 (runs_storeP ti27 rfl rfl hst (k := 0) rfl rfl rfl (NoFz.zero _) rfl) ?_
            | refine RW.opE0 (runs_storeW ti27 rfl rfl hst (k := 1) rfl rfl rfl (NoFz.zero _) rfl) ?_
            | refine RW.opE0 (runs_storeP ti27 rfl rfl hst (k := 1) rfl rfl rfl (NoFz.zero _) rfl) ?_
            | refine RW.opE0 (runs_storeW ti27 rfl rfl hst (k := 2) rfl rfl rfl (NoFz.zero _) rfl) ?_
            | refine RW.opE0 (runs_storeP ti27 rfl rfl hst (k := 2) rfl rfl rfl (NoFz.zero _) rfl) ?_
          rintro w hstn
          clear hst
          have hst := hstn
          clear hstn
          try simp only [List.set_cons_zero, List.set_cons_succ] at hst
          refine RW.op1 rfl (runs_assign rfl) ?_
          refine RW.op1 rfl (runs_assign rfl) ?_
          refine RW.op1 rfl (runs_assign rfl) ?_
          refine RW.op1 rfl (runs_assign rfl) ?_
          refine RW.done ?_
          refine AQ.next ?_
          refine CW.seq ?_
          -- region 9
          refine CW.region ?_
          refine RW.op1 rfl (runs_move rfl) ?_
          refine RW.op1 rfl (runs_eqI rfl rfl) ?_
          refine RW.op1 rfl (runs_move rfl) ?_
          have hk122 := (show decide ((2 : Int) = 2) = true from by decide)
          refine RW.on_guard rfl rfl rfl rfl hk122 ?_
          refine RW.op1 rfl (runs_move rfl) ?_
          refine RW.on_guard rfl rfl rfl rfl hk122 ?_
          refine RW.op1 rfl (runs_eqI rfl rfl) ?_
          refine RW.op1 rfl (runs_pick_true rfl hk122 rfl) ?_
          refine RW.op1 rfl (runs_move rfl) ?_
          have hk126 := (show decide ((2 : Int) = 2) = true from by decide)
          refine RW.on_guard rfl rfl rfl rfl hk126 ?_
          refine RW.call rfl call12 rfl rfl (wakes_spec hst) ?_
          rintro e w ⟨rfl, I26, hI26, hstn⟩
          clear hst
          have hst := hstn
          clear hstn
          replace hS := hS.mono hI26
          replace hT := hT.mono hI26
          replace h17 := h17.mono hI26
          replace hA := hA.mono hI26
          replace h18 := h18.mono hI26
          replace h22 := h22.mono hI26
          replace hB := hB.mono hI26
          replace h23 := h23.mono hI26
          replace hle := hle.trans hI26
          refine ⟨_, rfl, ?_⟩
          refine RW.op1 rfl (runs_pick_true rfl hk126 rfl) ?_
          refine RW.op1 rfl (runs_assign rfl) ?_
          refine RW.done ?_
          refine AQ.next ?_
          refine CW.ret ?_
          refine AQ.ret1 rfl rfl ?_
          exact ⟨rfl, _, hle, hst.sub (by first | exact List.Sublist.refl _ | exact List.sublist_cons_self _ _ | exact (List.sublist_cons_self _ _).trans (List.sublist_cons_self _ _) | exact (List.sublist_cons_self _ _).trans ((List.sublist_cons_self _ _).trans (List.sublist_cons_self _ _)) | exact (List.sublist_cons_self _ _).trans ((List.sublist_cons_self _ _).trans ((List.sublist_cons_self _ _).trans (List.sublist_cons_self _ _))))⟩
        refine DRW.opE rfl rfl (runs_alloc ti27 hst) ?_
        rintro _ w ⟨b27, rfl, hstn⟩
        clear hst
        have hst := hstn
        clear hstn
        refine ⟨FSt.of hst hJ17 (by first | exact (List.sublist_cons_self _ _).trans (List.sublist_append_right _ _) | exact List.Sublist.refl _ | exact List.sublist_cons_self _ _ | exact List.sublist_append_right _ _ | exact (List.sublist_cons_self _ _).trans (List.sublist_cons_self _ _) | exact (List.sublist_append_right _ _).trans (List.sublist_cons_self _ _) | simp), ?_⟩
        refine DRW.call rfl rfl call11 rfl rfl (open_spec hst hA (by rw [List.length_append, List.length_take, List.length_drop]; omega)) ?_
        rintro e w ⟨I28, v28, hI28, rfl, hstn, h28⟩
        clear hst
        have hst := hstn
        clear hstn
        rw [openR_bad hAo] at h28 ⊢
        replace hS := hS.mono hI28
        replace hT := hT.mono hI28
        replace h17 := h17.mono hI28
        replace hA := hA.mono hI28
        replace hle := hle.trans hI28
        refine ⟨_, rfl, FSt.of hst (hJ17.trans hI28) (by first | exact (List.sublist_cons_self _ _).trans (List.sublist_append_right _ _) | exact List.Sublist.refl _ | exact List.sublist_cons_self _ _ | exact List.sublist_append_right _ _ | exact (List.sublist_cons_self _ _).trans (List.sublist_cons_self _ _) | exact (List.sublist_append_right _ _).trans (List.sublist_cons_self _ _) | simp), ?_⟩
        refine DRW.q rfl rfl (fun w' hF => runs_move rfl) ?_
        refine DRW.q rfl rfl (fun w' hF => runs_extract rfl rfl) ?_
        refine DRW.q rfl rfl (fun w' hF => runs_extract rfl rfl) ?_
        refine DRW.q rfl rfl (fun w' hF => runs_extract rfl rfl) ?_
        refine DRW.q rfl rfl (fun w' hF => runs_extract rfl rfl) ?_
        refine DRW.q rfl rfl (fun w' hF => runs_extract rfl rfl) ?_
        first
          | refine DRW.opE0 rfl (runs_storeW ti27 rfl rfl hst (k := 0) rfl rfl rfl (NoFz.zero _) rfl) ?_
          | refine DRW.opE0 rfl (runs_storeP ti27 rfl rfl hst (k := 0) rfl rfl rfl (NoFz.zero _) rfl) ?_
          | refine DRW.opE0 rfl (runs_storeW ti27 rfl rfl hst (k := 1) rfl rfl rfl (NoFz.zero _) rfl) ?_
          | refine DRW.opE0 rfl (runs_storeP ti27 rfl rfl hst (k := 1) rfl rfl rfl (NoFz.zero _) rfl) ?_
          | refine DRW.opE0 rfl (runs_storeW ti27 rfl rfl hst (k := 2) rfl rfl rfl (NoFz.zero _) rfl) ?_
          | refine DRW.opE0 rfl (runs_storeP ti27 rfl rfl hst (k := 2) rfl rfl rfl (NoFz.zero _) rfl) ?_
        rintro w hstn
        clear hst
        have hst := hstn
        clear hstn
        try simp only [List.set_cons_zero, List.set_cons_succ] at hst
        refine ⟨FSt.of hst (hJ17.trans hI28) (by first | exact (List.sublist_cons_self _ _).trans (List.sublist_append_right _ _) | exact List.Sublist.refl _ | exact List.sublist_cons_self _ _ | exact List.sublist_append_right _ _ | exact (List.sublist_cons_self _ _).trans (List.sublist_cons_self _ _) | exact (List.sublist_append_right _ _).trans (List.sublist_cons_self _ _) | simp), ?_⟩
        refine DRW.q rfl rfl (fun w' hF => runs_assign rfl) ?_
        refine DRW.q rfl rfl (fun w' hF => runs_assign rfl) ?_
        refine DRW.q rfl rfl (fun w' hF => runs_assign rfl) ?_
        refine DRW.q rfl rfl (fun w' hF => runs_assign rfl) ?_
        refine DRW.done ?_
        refine AQ.next ?_
        refine CW.seq ?_
        -- region 8
        refine CW.region ?_
        refine RW.op1 rfl (runs_move rfl) ?_
        have hp111 : RdB _ (partV vS 0 (16 : Int).toNat 1) ((sealB (1 + within a 65535) (within b 16777216) 0 1 (bytesOf x (within x 20))).take 16) := RdB.part hS (by omega) (by omega)
        refine RW.op1 rfl (RdL.slice_h Try.underlying22 ti5 rfl rfl hS (by omega)) ?_
        refine RW.opE rfl (runs_appendB (Lv := []) Try.underlying22 ti5 rfl rfl hst (GrowB.nil _) (by assumption) (by (try simp) <;> omega)) ?_
        rintro u30 w ⟨Lv30, hstn, hg30⟩
        clear hst
        have hst := hstn
        clear hstn
        refine RW.opE rfl (runs_appendZ (m := 16) Try.underlying22 ti5 Try.underlying3 rfl rfl hst (by assumption) (by simp <;> omega)) ?_
        rintro u31 w ⟨Lv31, hstn, hg31⟩
        clear hst
        have hst := hstn
        clear hstn
        obtain ⟨J31, hJ31, hstn, h31⟩ := Grow.freeze hg31 hst
        clear hst
        have hst := hstn
        clear hstn
        replace hS := hS.mono hJ31
        replace hT := hT.mono hJ31
        replace h17 := h17.mono hJ31
        replace hA := hA.mono hJ31
        replace h28 := h28.mono hJ31
        replace hle := hle.trans hJ31
        try simp only [List.nil_append] at h31
        have hBo : openOk ((sealB (1 + within a 65535) (within b 16777216) 0 1 (bytesOf x (within x 20))).take 16 ++ List.replicate (32 - 16) 0) = false := zeros_not hsS (by omega) 16 (by decide)
        have hB := h31
        refine RW.call rfl call11 rfl rfl (open_spec hst (s := (sealB (1 + within a 65535) (within b 16777216) 0 1 (bytesOf x (within x 20))).take 16 ++ List.replicate (32 - 16) 0) hB (by rw [List.length_append, List.length_take, List.length_replicate]; omega)) ?_
        rintro e w ⟨I32, v32, hI32, rfl, hstn, h32⟩
        clear hst
        have hst := hstn
        clear hstn
        rw [openR_bad hBo] at h32 ⊢
        replace hS := hS.mono hI32
        replace hT := hT.mono hI32
        replace h17 := h17.mono hI32
        replace hA := hA.mono hI32
        replace h28 := h28.mono hI32
        replace h31 := h31.mono hI32
        replace hB := hB.mono hI32
        replace hle := hle.trans hI32
        refine ⟨_, rfl, ?_⟩
        refine RW.op1 rfl (runs_move rfl) ?_
        refine RW.op1 rfl (runs_extract rfl rfl) ?_
        refine RW.op1 rfl (runs_extract rfl rfl) ?_
        refine RW.op1 rfl (runs_extract rfl rfl) ?_
        refine RW.op1 rfl (runs_extract rfl rfl) ?_
        refine RW.op1 rfl (runs_extract rfl rfl) ?_
        refine RW.opE rfl (runs_alloc ti27 hst) ?_
        rintro _ w ⟨b33, rfl, hstn⟩
        clear hst
        have hst := hstn
        clear hstn
        first
          | refine RW.opE0 (runs_storeW ti27 rfl rfl hst (k := 0) rfl rfl rfl (NoFz.zero _) rfl) ?_
          | refine RW.opE0 (runs_storeP ti27 rfl rfl hst (k := 0) rfl rfl rfl (NoFz.zero _) rfl) ?_
          | refine RW.opE0 (runs_storeW ti27 rfl rfl hst (k := 1) rfl rfl rfl (NoFz.zero _) rfl) ?_
          | refine RW.opE0 (runs_storeP ti27 rfl rfl hst (k := 1) rfl rfl rfl (NoFz.zero _) rfl) ?_
          | refine RW.opE0 (runs_storeW ti27 rfl rfl hst (k := 2) rfl rfl rfl (NoFz.zero _) rfl) ?_
          | refine RW.opE0 (runs_storeP ti27 rfl rfl hst (k := 2) rfl rfl rfl (NoFz.zero _) rfl) ?_
        rintro w hstn
        clear hst
        have hst := hstn
        clear hstn
        try simp only [List.set_cons_zero, List.set_cons_succ] at hst
        refine RW.op1 rfl (runs_assign rfl) ?_
        refine RW.op1 rfl (runs_assign rfl) ?_
        refine RW.op1 rfl (runs_assign rfl) ?_
        refine RW.op1 rfl (runs_assign rfl) ?_
        refine RW.done ?_
        refine AQ.next ?_
        refine CW.seq ?_
        -- region 9
        refine CW.region ?_
        refine RW.op1 rfl (runs_move rfl) ?_
        refine RW.op1 rfl (runs_eqI rfl rfl) ?_
        refine RW.op1 rfl (runs_move rfl) ?_
        have hk122 := (show decide ((2 : Int) = 2) = true from by decide)
        refine RW.on_guard rfl rfl rfl rfl hk122 ?_
        refine RW.op1 rfl (runs_move rfl) ?_
        refine RW.on_guard rfl rfl rfl rfl hk122 ?_
        refine RW.op1 rfl (runs_eqI rfl rfl) ?_
        refine RW.op1 rfl (runs_pick_true rfl hk122 rfl) ?_
        refine RW.op1 rfl (runs_move rfl) ?_
        have hk126 := (show decide ((2 : Int) = 2) = true from by decide)
        refine RW.on_guard rfl rfl rfl rfl hk126 ?_
        refine RW.call rfl call12 rfl rfl (wakes_spec hst) ?_
        rintro e w ⟨rfl, I35, hI35, hstn⟩
        clear hst
        have hst := hstn
        clear hstn
        replace hS := hS.mono hI35
        replace hT := hT.mono hI35
        replace h17 := h17.mono hI35
        replace hA := hA.mono hI35
        replace h28 := h28.mono hI35
        replace h31 := h31.mono hI35
        replace hB := hB.mono hI35
        replace h32 := h32.mono hI35
        replace hle := hle.trans hI35
        refine ⟨_, rfl, ?_⟩
        refine RW.op1 rfl (runs_pick_true rfl hk126 rfl) ?_
        refine RW.op1 rfl (runs_assign rfl) ?_
        refine RW.done ?_
        refine AQ.next ?_
        refine CW.ret ?_
        refine AQ.ret1 rfl rfl ?_
        exact ⟨rfl, _, hle, hst.sub (by first | exact List.Sublist.refl _ | exact List.sublist_cons_self _ _ | exact (List.sublist_cons_self _ _).trans (List.sublist_cons_self _ _) | exact (List.sublist_cons_self _ _).trans ((List.sublist_cons_self _ _).trans (List.sublist_cons_self _ _)) | exact (List.sublist_cons_self _ _).trans ((List.sublist_cons_self _ _).trans ((List.sublist_cons_self _ _).trans (List.sublist_cons_self _ _))))⟩
      refine DRW.opE rfl rfl (runs_alloc ti27 hst) ?_
      rintro _ w ⟨b36, rfl, hstn⟩
      clear hst
      have hst := hstn
      clear hstn
      replace hst := hst.perm (List.perm_middle (l₁ := Lv16)).symm
      refine ⟨FSt.of hst (Imm.le.refl _) (by first | exact (List.sublist_cons_self _ _).trans (List.sublist_append_right _ _) | exact List.Sublist.refl _ | exact List.sublist_cons_self _ _ | exact List.sublist_append_right _ _ | exact (List.sublist_cons_self _ _).trans (List.sublist_cons_self _ _) | exact (List.sublist_append_right _ _).trans (List.sublist_cons_self _ _) | simp), ?_⟩
      refine DRW.opE rfl rfl (runs_appendB Try.underlying22 ti5 rfl rfl hst (by assumption) (by assumption) (by (try simp) <;> omega)) ?_
      rintro u37 w ⟨Lv37, hstn, hg37⟩
      clear hst
      have hst := hstn
      clear hstn
      refine ⟨FSt.of hst (Imm.le.refl _) (by first | exact (List.sublist_cons_self _ _).trans (List.sublist_append_right _ _) | exact List.Sublist.refl _ | exact List.sublist_cons_self _ _ | exact List.sublist_append_right _ _ | exact (List.sublist_cons_self _ _).trans (List.sublist_cons_self _ _) | exact (List.sublist_append_right _ _).trans (List.sublist_cons_self _ _) | simp), ?_⟩
      obtain ⟨J37, hJ37, hstn, h37⟩ := Grow.freeze hg37 hst
      clear hst
      have hst := hstn
      clear hstn
      replace hS := hS.mono hJ37
      replace hT := hT.mono hJ37
      replace hle := hle.trans hJ37
      try simp only [List.nil_append] at h37
      have hAo : openOk ((sealB (1 + within a 65535) (within b 16777216) 0 1 (bytesOf x (within x 20))).take 16 ++ (sealB (1 + within c 65535) (within d 16777216) 0 1 (bytesOf y (within y 20))).drop 16) = false := halves_not hsS hsT (by simpa using hc86) 16 (by decide)
      have hA := h37
      refine DRW.call rfl rfl call11 rfl rfl (open_spec hst hA (by rw [List.length_append, List.length_take, List.length_drop]; omega)) ?_
      rintro e w ⟨I38, v38, hI38, rfl, hstn, h38⟩
      clear hst
      have hst := hstn
      clear hstn
      rw [openR_bad hAo] at h38 ⊢
      replace hS := hS.mono hI38
      replace hT := hT.mono hI38
      replace h37 := h37.mono hI38
      replace hA := hA.mono hI38
      replace hle := hle.trans hI38
      refine ⟨_, rfl, FSt.of hst (hJ37.trans hI38) (by first | exact (List.sublist_cons_self _ _).trans (List.sublist_append_right _ _) | exact List.Sublist.refl _ | exact List.sublist_cons_self _ _ | exact List.sublist_append_right _ _ | exact (List.sublist_cons_self _ _).trans (List.sublist_cons_self _ _) | exact (List.sublist_append_right _ _).trans (List.sublist_cons_self _ _) | simp), ?_⟩
      refine DRW.q rfl rfl (fun w' hF => runs_move rfl) ?_
      refine DRW.q rfl rfl (fun w' hF => runs_extract rfl rfl) ?_
      refine DRW.q rfl rfl (fun w' hF => runs_extract rfl rfl) ?_
      refine DRW.q rfl rfl (fun w' hF => runs_extract rfl rfl) ?_
      refine DRW.q rfl rfl (fun w' hF => runs_extract rfl rfl) ?_
      refine DRW.q rfl rfl (fun w' hF => runs_extract rfl rfl) ?_
      first
        | refine DRW.opE0 rfl (runs_storeW ti27 rfl rfl hst (k := 0) rfl rfl rfl (NoFz.zero _) rfl) ?_
        | refine DRW.opE0 rfl (runs_storeP ti27 rfl rfl hst (k := 0) rfl rfl rfl (NoFz.zero _) rfl) ?_
        | refine DRW.opE0 rfl (runs_storeW ti27 rfl rfl hst (k := 1) rfl rfl rfl (NoFz.zero _) rfl) ?_
        | refine DRW.opE0 rfl (runs_storeP ti27 rfl rfl hst (k := 1) rfl rfl rfl (NoFz.zero _) rfl) ?_
        | refine DRW.opE0 rfl (runs_storeW ti27 rfl rfl hst (k := 2) rfl rfl rfl (NoFz.zero _) rfl) ?_
        | refine DRW.opE0 rfl (runs_storeP ti27 rfl rfl hst (k := 2) rfl rfl rfl (NoFz.zero _) rfl) ?_
      rintro w hstn
      clear hst
      have hst := hstn
      clear hstn
      try simp only [List.set_cons_zero, List.set_cons_succ] at hst
      refine ⟨FSt.of hst (hJ37.trans hI38) (by first | exact (List.sublist_cons_self _ _).trans (List.sublist_append_right _ _) | exact List.Sublist.refl _ | exact List.sublist_cons_self _ _ | exact List.sublist_append_right _ _ | exact (List.sublist_cons_self _ _).trans (List.sublist_cons_self _ _) | exact (List.sublist_append_right _ _).trans (List.sublist_cons_self _ _) | simp), ?_⟩
      refine DRW.q rfl rfl (fun w' hF => runs_assign rfl) ?_
      refine DRW.q rfl rfl (fun w' hF => runs_assign rfl) ?_
      refine DRW.q rfl rfl (fun w' hF => runs_assign rfl) ?_
      refine DRW.q rfl rfl (fun w' hF => runs_assign rfl) ?_
      refine DRW.done ?_
      refine AQ.next ?_
      refine CW.seq ?_
      -- region 8
      refine CW.region ?_
      refine RW.op1 rfl (runs_move rfl) ?_
      have hp111 : RdB _ (partV vS 0 (16 : Int).toNat 1) ((sealB (1 + within a 65535) (within b 16777216) 0 1 (bytesOf x (within x 20))).take 16) := RdB.part hS (by omega) (by omega)
      refine RW.op1 rfl (RdL.slice_h Try.underlying22 ti5 rfl rfl hS (by omega)) ?_
      refine RW.opE rfl (runs_appendB (Lv := []) Try.underlying22 ti5 rfl rfl hst (GrowB.nil _) (by assumption) (by (try simp) <;> omega)) ?_
      rintro u40 w ⟨Lv40, hstn, hg40⟩
      clear hst
      have hst := hstn
      clear hstn
      refine RW.opE rfl (runs_appendZ (m := 16) Try.underlying22 ti5 Try.underlying3 rfl rfl hst (by assumption) (by simp <;> omega)) ?_
      rintro u41 w ⟨Lv41, hstn, hg41⟩
      clear hst
      have hst := hstn
      clear hstn
      obtain ⟨J41, hJ41, hstn, h41⟩ := Grow.freeze hg41 hst
      clear hst
      have hst := hstn
      clear hstn
      replace hS := hS.mono hJ41
      replace hT := hT.mono hJ41
      replace h37 := h37.mono hJ41
      replace hA := hA.mono hJ41
      replace h38 := h38.mono hJ41
      replace hle := hle.trans hJ41
      try simp only [List.nil_append] at h41
      have hBo : openOk ((sealB (1 + within a 65535) (within b 16777216) 0 1 (bytesOf x (within x 20))).take 16 ++ List.replicate (32 - 16) 0) = false := zeros_not hsS (by omega) 16 (by decide)
      have hB := h41
      refine RW.call rfl call11 rfl rfl (open_spec hst (s := (sealB (1 + within a 65535) (within b 16777216) 0 1 (bytesOf x (within x 20))).take 16 ++ List.replicate (32 - 16) 0) hB (by rw [List.length_append, List.length_take, List.length_replicate]; omega)) ?_
      rintro e w ⟨I42, v42, hI42, rfl, hstn, h42⟩
      clear hst
      have hst := hstn
      clear hstn
      rw [openR_bad hBo] at h42 ⊢
      replace hS := hS.mono hI42
      replace hT := hT.mono hI42
      replace h37 := h37.mono hI42
      replace hA := hA.mono hI42
      replace h38 := h38.mono hI42
      replace h41 := h41.mono hI42
      replace hB := hB.mono hI42
      replace hle := hle.trans hI42
      refine ⟨_, rfl, ?_⟩
      refine RW.op1 rfl (runs_move rfl) ?_
      refine RW.op1 rfl (runs_extract rfl rfl) ?_
      refine RW.op1 rfl (runs_extract rfl rfl) ?_
      refine RW.op1 rfl (runs_extract rfl rfl) ?_
      refine RW.op1 rfl (runs_extract rfl rfl) ?_
      refine RW.op1 rfl (runs_extract rfl rfl) ?_
      refine RW.opE rfl (runs_alloc ti27 hst) ?_
      rintro _ w ⟨b43, rfl, hstn⟩
      clear hst
      have hst := hstn
      clear hstn
      first
        | refine RW.opE0 (runs_storeW ti27 rfl rfl hst (k := 0) rfl rfl rfl (NoFz.zero _) rfl) ?_
        | refine RW.opE0 (runs_storeP ti27 rfl rfl hst (k := 0) rfl rfl rfl (NoFz.zero _) rfl) ?_
        | refine RW.opE0 (runs_storeW ti27 rfl rfl hst (k := 1) rfl rfl rfl (NoFz.zero _) rfl) ?_
        | refine RW.opE0 (runs_storeP ti27 rfl rfl hst (k := 1) rfl rfl rfl (NoFz.zero _) rfl) ?_
        | refine RW.opE0 (runs_storeW ti27 rfl rfl hst (k := 2) rfl rfl rfl (NoFz.zero _) rfl) ?_
        | refine RW.opE0 (runs_storeP ti27 rfl rfl hst (k := 2) rfl rfl rfl (NoFz.zero _) rfl) ?_
      rintro w hstn
      clear hst
      have hst := hstn
      clear hstn
      try simp only [List.set_cons_zero, List.set_cons_succ] at hst
      refine RW.op1 rfl (runs_assign rfl) ?_
      refine RW.op1 rfl (runs_assign rfl) ?_
      refine RW.op1 rfl (runs_assign rfl) ?_
      refine RW.op1 rfl (runs_assign rfl) ?_
      refine RW.done ?_
      refine AQ.next ?_
      refine CW.seq ?_
      -- region 9
      refine CW.region ?_
      refine RW.op1 rfl (runs_move rfl) ?_
      refine RW.op1 rfl (runs_eqI rfl rfl) ?_
      refine RW.op1 rfl (runs_move rfl) ?_
      have hk122 := (show decide ((2 : Int) = 2) = true from by decide)
      refine RW.on_guard rfl rfl rfl rfl hk122 ?_
      refine RW.op1 rfl (runs_move rfl) ?_
      refine RW.on_guard rfl rfl rfl rfl hk122 ?_
      refine RW.op1 rfl (runs_eqI rfl rfl) ?_
      refine RW.op1 rfl (runs_pick_true rfl hk122 rfl) ?_
      refine RW.op1 rfl (runs_move rfl) ?_
      have hk126 := (show decide ((2 : Int) = 2) = true from by decide)
      refine RW.on_guard rfl rfl rfl rfl hk126 ?_
      refine RW.call rfl call12 rfl rfl (wakes_spec hst) ?_
      rintro e w ⟨rfl, I45, hI45, hstn⟩
      clear hst
      have hst := hstn
      clear hstn
      replace hS := hS.mono hI45
      replace hT := hT.mono hI45
      replace h37 := h37.mono hI45
      replace hA := hA.mono hI45
      replace h38 := h38.mono hI45
      replace h41 := h41.mono hI45
      replace hB := hB.mono hI45
      replace h42 := h42.mono hI45
      replace hle := hle.trans hI45
      refine ⟨_, rfl, ?_⟩
      refine RW.op1 rfl (runs_pick_true rfl hk126 rfl) ?_
      refine RW.op1 rfl (runs_assign rfl) ?_
      refine RW.done ?_
      refine AQ.next ?_
      refine CW.ret ?_
      refine AQ.ret1 rfl rfl ?_
      exact ⟨rfl, _, hle, hst.sub (by first | exact List.Sublist.refl _ | exact List.sublist_cons_self _ _ | exact (List.sublist_cons_self _ _).trans (List.sublist_cons_self _ _) | exact (List.sublist_cons_self _ _).trans ((List.sublist_cons_self _ _).trans (List.sublist_cons_self _ _)) | exact (List.sublist_cons_self _ _).trans ((List.sublist_cons_self _ _).trans ((List.sublist_cons_self _ _).trans (List.sublist_cons_self _ _))))⟩
    refine DRW.opE rfl rfl (runs_alloc ti27 hst) ?_
    rintro _ w ⟨b46, rfl, hstn⟩
    clear hst
    have hst := hstn
    clear hstn
    refine ⟨FSt.of hst (Imm.le.refl _) (by first | exact (List.sublist_cons_self _ _).trans (List.sublist_append_right _ _) | exact List.Sublist.refl _ | exact List.sublist_cons_self _ _ | exact List.sublist_append_right _ _ | exact (List.sublist_cons_self _ _).trans (List.sublist_cons_self _ _) | exact (List.sublist_append_right _ _).trans (List.sublist_cons_self _ _) | simp), ?_⟩
    refine DRW.opE rfl rfl (runs_appendB (Lv := []) Try.underlying22 ti5 rfl rfl hst (GrowB.nil _) (by assumption) (by (try simp) <;> omega)) ?_
    rintro u47 w ⟨Lv47, hstn, hg47⟩
    clear hst
    have hst := hstn
    clear hstn
    refine ⟨FSt.of hst (Imm.le.refl _) (by first | exact (List.sublist_cons_self _ _).trans (List.sublist_append_right _ _) | exact List.Sublist.refl _ | exact List.sublist_cons_self _ _ | exact List.sublist_append_right _ _ | exact (List.sublist_cons_self _ _).trans (List.sublist_cons_self _ _) | exact (List.sublist_append_right _ _).trans (List.sublist_cons_self _ _) | simp), ?_⟩
    refine DRW.opE rfl rfl (runs_appendB Try.underlying22 ti5 rfl rfl hst (by assumption) (by assumption) (by (try simp) <;> omega)) ?_
    rintro u48 w ⟨Lv48, hstn, hg48⟩
    clear hst
    have hst := hstn
    clear hstn
    refine ⟨FSt.of hst (Imm.le.refl _) (by first | exact (List.sublist_cons_self _ _).trans (List.sublist_append_right _ _) | exact List.Sublist.refl _ | exact List.sublist_cons_self _ _ | exact List.sublist_append_right _ _ | exact (List.sublist_cons_self _ _).trans (List.sublist_cons_self _ _) | exact (List.sublist_append_right _ _).trans (List.sublist_cons_self _ _) | simp), ?_⟩
    obtain ⟨J48, hJ48, hstn, h48⟩ := Grow.freeze hg48 hst
    clear hst
    have hst := hstn
    clear hstn
    replace hS := hS.mono hJ48
    replace hT := hT.mono hJ48
    replace hle := hle.trans hJ48
    try simp only [List.nil_append] at h48
    have hAo : openOk ((sealB (1 + within a 65535) (within b 16777216) 0 1 (bytesOf x (within x 20))).take 16 ++ (sealB (1 + within c 65535) (within d 16777216) 0 1 (bytesOf y (within y 20))).drop 16) = false := halves_not hsS hsT (by simpa using hc86) 16 (by decide)
    have hA := h48
    refine DRW.call rfl rfl call11 rfl rfl (open_spec hst hA (by rw [List.length_append, List.length_take, List.length_drop]; omega)) ?_
    rintro e w ⟨I49, v49, hI49, rfl, hstn, h49⟩
    clear hst
    have hst := hstn
    clear hstn
    rw [openR_bad hAo] at h49 ⊢
    replace hS := hS.mono hI49
    replace hT := hT.mono hI49
    replace h48 := h48.mono hI49
    replace hA := hA.mono hI49
    replace hle := hle.trans hI49
    refine ⟨_, rfl, FSt.of hst (hJ48.trans hI49) (by first | exact (List.sublist_cons_self _ _).trans (List.sublist_append_right _ _) | exact List.Sublist.refl _ | exact List.sublist_cons_self _ _ | exact List.sublist_append_right _ _ | exact (List.sublist_cons_self _ _).trans (List.sublist_cons_self _ _) | exact (List.sublist_append_right _ _).trans (List.sublist_cons_self _ _) | simp), ?_⟩
    refine DRW.q rfl rfl (fun w' hF => runs_move rfl) ?_
    refine DRW.q rfl rfl (fun w' hF => runs_extract rfl rfl) ?_
    refine DRW.q rfl rfl (fun w' hF => runs_extract rfl rfl) ?_
    refine DRW.q rfl rfl (fun w' hF => runs_extract rfl rfl) ?_
    refine DRW.q rfl rfl (fun w' hF => runs_extract rfl rfl) ?_
    refine DRW.q rfl rfl (fun w' hF => runs_extract rfl rfl) ?_
    first
      | refine DRW.opE0 rfl (runs_storeW ti27 rfl rfl hst (k := 0) rfl rfl rfl (NoFz.zero _) rfl) ?_
      | refine DRW.opE0 rfl (runs_storeP ti27 rfl rfl hst (k := 0) rfl rfl rfl (NoFz.zero _) rfl) ?_
      | refine DRW.opE0 rfl (runs_storeW ti27 rfl rfl hst (k := 1) rfl rfl rfl (NoFz.zero _) rfl) ?_
      | refine DRW.opE0 rfl (runs_storeP ti27 rfl rfl hst (k := 1) rfl rfl rfl (NoFz.zero _) rfl) ?_
      | refine DRW.opE0 rfl (runs_storeW ti27 rfl rfl hst (k := 2) rfl rfl rfl (NoFz.zero _) rfl) ?_
      | refine DRW.opE0 rfl (runs_storeP ti27 rfl rfl hst (k := 2) rfl rfl rfl (NoFz.zero _) rfl) ?_
    rintro w hstn
    clear hst
    have hst := hstn
    clear hstn
    try simp only [List.set_cons_zero, List.set_cons_succ] at hst
    refine ⟨FSt.of hst (hJ48.trans hI49) (by first | exact (List.sublist_cons_self _ _).trans (List.sublist_append_right _ _) | exact List.Sublist.refl _ | exact List.sublist_cons_self _ _ | exact List.sublist_append_right _ _ | exact (List.sublist_cons_self _ _).trans (List.sublist_cons_self _ _) | exact (List.sublist_append_right _ _).trans (List.sublist_cons_self _ _) | simp), ?_⟩
    refine DRW.q rfl rfl (fun w' hF => runs_assign rfl) ?_
    refine DRW.q rfl rfl (fun w' hF => runs_assign rfl) ?_
    refine DRW.q rfl rfl (fun w' hF => runs_assign rfl) ?_
    refine DRW.q rfl rfl (fun w' hF => runs_assign rfl) ?_
    refine DRW.done ?_
    refine AQ.next ?_
    refine CW.seq ?_
    -- region 8
    refine CW.region ?_
    refine RW.op1 rfl (runs_move rfl) ?_
    have hp111 : RdB _ (partV vS 0 (16 : Int).toNat 1) ((sealB (1 + within a 65535) (within b 16777216) 0 1 (bytesOf x (within x 20))).take 16) := RdB.part hS (by omega) (by omega)
    refine RW.op1 rfl (RdL.slice_h Try.underlying22 ti5 rfl rfl hS (by omega)) ?_
    refine RW.opE rfl (runs_appendB (Lv := []) Try.underlying22 ti5 rfl rfl hst (GrowB.nil _) (by assumption) (by (try simp) <;> omega)) ?_
    rintro u51 w ⟨Lv51, hstn, hg51⟩
    clear hst
    have hst := hstn
    clear hstn
    refine RW.opE rfl (runs_appendZ (m := 16) Try.underlying22 ti5 Try.underlying3 rfl rfl hst (by assumption) (by simp <;> omega)) ?_
    rintro u52 w ⟨Lv52, hstn, hg52⟩
    clear hst
    have hst := hstn
    clear hstn
    obtain ⟨J52, hJ52, hstn, h52⟩ := Grow.freeze hg52 hst
    clear hst
    have hst := hstn
    clear hstn
    replace hS := hS.mono hJ52
    replace hT := hT.mono hJ52
    replace h48 := h48.mono hJ52
    replace hA := hA.mono hJ52
    replace h49 := h49.mono hJ52
    replace hle := hle.trans hJ52
    try simp only [List.nil_append] at h52
    have hBo : openOk ((sealB (1 + within a 65535) (within b 16777216) 0 1 (bytesOf x (within x 20))).take 16 ++ List.replicate (32 - 16) 0) = false := zeros_not hsS (by omega) 16 (by decide)
    have hB := h52
    refine RW.call rfl call11 rfl rfl (open_spec hst (s := (sealB (1 + within a 65535) (within b 16777216) 0 1 (bytesOf x (within x 20))).take 16 ++ List.replicate (32 - 16) 0) hB (by rw [List.length_append, List.length_take, List.length_replicate]; omega)) ?_
    rintro e w ⟨I53, v53, hI53, rfl, hstn, h53⟩
    clear hst
    have hst := hstn
    clear hstn
    rw [openR_bad hBo] at h53 ⊢
    replace hS := hS.mono hI53
    replace hT := hT.mono hI53
    replace h48 := h48.mono hI53
    replace hA := hA.mono hI53
    replace h49 := h49.mono hI53
    replace h52 := h52.mono hI53
    replace hB := hB.mono hI53
    replace hle := hle.trans hI53
    refine ⟨_, rfl, ?_⟩
    refine RW.op1 rfl (runs_move rfl) ?_
    refine RW.op1 rfl (runs_extract rfl rfl) ?_
    refine RW.op1 rfl (runs_extract rfl rfl) ?_
    refine RW.op1 rfl (runs_extract rfl rfl) ?_
    refine RW.op1 rfl (runs_extract rfl rfl) ?_
    refine RW.op1 rfl (runs_extract rfl rfl) ?_
    refine RW.opE rfl (runs_alloc ti27 hst) ?_
    rintro _ w ⟨b54, rfl, hstn⟩
    clear hst
    have hst := hstn
    clear hstn
    first
      | refine RW.opE0 (runs_storeW ti27 rfl rfl hst (k := 0) rfl rfl rfl (NoFz.zero _) rfl) ?_
      | refine RW.opE0 (runs_storeP ti27 rfl rfl hst (k := 0) rfl rfl rfl (NoFz.zero _) rfl) ?_
      | refine RW.opE0 (runs_storeW ti27 rfl rfl hst (k := 1) rfl rfl rfl (NoFz.zero _) rfl) ?_
      | refine RW.opE0 (runs_storeP ti27 rfl rfl hst (k := 1) rfl rfl rfl (NoFz.zero _) rfl) ?_
      | refine RW.opE0 (runs_storeW ti27 rfl rfl hst (k := 2) rfl rfl rfl (NoFz.zero _) rfl) ?_
      | refine RW.opE0 (runs_storeP ti27 rfl rfl hst (k := 2) rfl rfl rfl (NoFz.zero _) rfl) ?_
    rintro w hstn
    clear hst
    have hst := hstn
    clear hstn
    try simp only [List.set_cons_zero, List.set_cons_succ] at hst
    refine RW.op1 rfl (runs_assign rfl) ?_
    refine RW.op1 rfl (runs_assign rfl) ?_
    refine RW.op1 rfl (runs_assign rfl) ?_
    refine RW.op1 rfl (runs_assign rfl) ?_
    refine RW.done ?_
    refine AQ.next ?_
    refine CW.seq ?_
    -- region 9
    refine CW.region ?_
    refine RW.op1 rfl (runs_move rfl) ?_
    refine RW.op1 rfl (runs_eqI rfl rfl) ?_
    refine RW.op1 rfl (runs_move rfl) ?_
    have hk122 := (show decide ((2 : Int) = 2) = true from by decide)
    refine RW.on_guard rfl rfl rfl rfl hk122 ?_
    refine RW.op1 rfl (runs_move rfl) ?_
    refine RW.on_guard rfl rfl rfl rfl hk122 ?_
    refine RW.op1 rfl (runs_eqI rfl rfl) ?_
    refine RW.op1 rfl (runs_pick_true rfl hk122 rfl) ?_
    refine RW.op1 rfl (runs_move rfl) ?_
    have hk126 := (show decide ((2 : Int) = 2) = true from by decide)
    refine RW.on_guard rfl rfl rfl rfl hk126 ?_
    refine RW.call rfl call12 rfl rfl (wakes_spec hst) ?_
    rintro e w ⟨rfl, I56, hI56, hstn⟩
    clear hst
    have hst := hstn
    clear hstn
    replace hS := hS.mono hI56
    replace hT := hT.mono hI56
    replace h48 := h48.mono hI56
    replace hA := hA.mono hI56
    replace h49 := h49.mono hI56
    replace h52 := h52.mono hI56
    replace hB := hB.mono hI56
    replace h53 := h53.mono hI56
    replace hle := hle.trans hI56
    refine ⟨_, rfl, ?_⟩
    refine RW.op1 rfl (runs_pick_true rfl hk126 rfl) ?_
    refine RW.op1 rfl (runs_assign rfl) ?_
    refine RW.done ?_
    refine AQ.next ?_
    refine CW.ret ?_
    refine AQ.ret1 rfl rfl ?_
    exact ⟨rfl, _, hle, hst.sub (by first | exact List.Sublist.refl _ | exact List.sublist_cons_self _ _ | exact (List.sublist_cons_self _ _).trans (List.sublist_cons_self _ _) | exact (List.sublist_cons_self _ _).trans ((List.sublist_cons_self _ _).trans (List.sublist_cons_self _ _)) | exact (List.sublist_cons_self _ _).trans ((List.sublist_cons_self _ _).trans ((List.sublist_cons_self _ _).trans (List.sublist_cons_self _ _))))⟩
end Go.Proofs.YtnnaplcddhjfbaaX
