/- What sealing and opening a sector come to, the program's and the document's. -/
import Derived.Test.YthocicjjighbnaaT
import Derived.Test.YthocicjjighbnaaM2
import Derived.Test.YthocicjjighbnaaM1
namespace Go.Proofs.YthocicjjighbnaaX
set_option linter.unusedVariables false
set_option linter.unusedSimpArgs false
open Go Go.RowKit Go.Proofs

attribute [local simp] two_length three_length
set_option maxRecDepth 100000 in
set_option maxHeartbeats 1000000 in
theorem equal_spec {w0 w : World} {I : Imm} {L : Own} (hst : St w0 w I L) {v u : Value} {a b : List UInt8} (ha : RdB I v a) (hb : RdB I u b) :
    Calls Try.prog 50 #[v, u] w fun e w' => e = .returned (.bool (decide (a = b))) ∧ St w0 w' I L := by
  refine enter Try.func50 rfl (N := 10) rfl rfl ?_
  simp only [List.zipIdx_cons, List.zipIdx_nil, List.map_cons, List.map_nil, Nat.zero_add, Nat.reduceAdd]
  have hle := Imm.le.refl I
  refine CW.seq ?_
  -- region 0
  refine CW.region ?_
  refine RW.op1 rfl (runs_assign rfl) ?_
  refine RW.done ?_
  refine AQ.next ?_
  refine CW.seq ?_
  -- region 1
  refine CW.region ?_
  refine RW.op1 rfl (runs_move rfl) ?_
  refine RW.op1 rfl (RdB.string Try.underlying33 Try.underlying5 Try.underlying9 rfl (by assumption) hst) ?_
  refine RW.op1 rfl (runs_move rfl) ?_
  refine RW.op1 rfl (RdB.string Try.underlying33 Try.underlying5 Try.underlying9 rfl (by assumption) hst) ?_
  refine RW.op1 rfl (runs_eqS rfl rfl) ?_
  refine RW.op1 rfl (runs_assign rfl) ?_
  refine RW.done ?_
  refine AQ.next ?_
  refine CW.ret ?_
  refine AQ.ret1 rfl rfl ?_
  exact ⟨by rw [strOf_toList, strOf_toList, beqB], hst⟩
set_option maxRecDepth 100000 in
set_option maxHeartbeats 1000000 in
theorem seal_own {w0 w : World} {I : Imm} {L : Own} (hst : St w0 w I L) (e s p n : Int) {v : Value} {b : List UInt8} (hv : RdB I v b) (hb : b.length ≤ 9223372036854775807) :
    Calls Try.prog 14 #[.agg #[.int .i64 e, .int .i64 s], .int .i64 p, .int .i64 n, v] w fun r w' => ∃ I' v' Lv, Imm.le I I' ∧ r = .returned (.tuple #[v', .int .i64 (if sealM e s p n b then 0 else 1)]) ∧ St w0 w' I' (Lv ++ L) ∧ GrowB 5 v' (if sealM e s p n b then sealB e s p n b else []) Lv := by
  refine enter Try.func14 rfl (N := 82) rfl rfl ?_
  simp only [List.zipIdx_cons, List.zipIdx_nil, List.map_cons, List.map_nil, Nat.zero_add, Nat.reduceAdd]
  have hle := Imm.le.refl I
  refine CW.seq ?_
  -- region 0
  refine CW.region ?_
  refine RW.opE rfl (runs_box rfl hst) ?_
  rintro _ w ⟨b1, rfl, hstn⟩
  clear hst
  have hst := hstn
  clear hstn
  refine RW.op1 rfl (runs_assign rfl) ?_
  refine RW.op1 rfl (runs_assign rfl) ?_
  refine RW.done ?_
  refine AQ.next ?_
  refine CW.seq ?_
  refine CW.seq ?_
  -- region 1
  refine CW.region ?_
  first
    | refine RW.op1 rfl (runs_loadN (vs := [_, _]) ag38 ti38 rfl hst (k := 0) rfl rfl rfl) ?_
    | refine RW.op1 rfl (runs_loadN (vs := [_, _]) ag38 ti38 rfl hst (k := 1) rfl rfl rfl) ?_
    | refine RW.op1 rfl (runs_loadN (vs := [_, _]) ag38 ti38 rfl hst (k := 2) rfl rfl rfl) ?_
  refine RW.call rfl call37 rfl rfl (may_spec hst e s) ?_
  rintro e w ⟨rfl, hstn⟩
  clear hst
  have hst := hstn
  clear hstn
  refine ⟨_, rfl, ?_⟩
  refine RW.op1 rfl (runs_not rfl) ?_
  refine RW.op1 rfl (runs_move rfl) ?_
  refine RW.split (t := 16) rfl (fun hb16 => ?_) (fun hb16 => ?_)
  · have hb16p := hb16
    try simp only [decide_eq_true_eq, decide_eq_false_iff_not] at hb16p
    refine RW.off_guard rfl rfl rfl rfl hb16 ?_
    refine RW.off_guard rfl rfl rfl rfl hb16 ?_
    refine RW.op1 rfl (runs_pick_true rfl hb16 rfl) ?_
    refine RW.op1 rfl (runs_move rfl) ?_
    refine RW.off_guard rfl rfl rfl rfl rfl ?_
    refine RW.off_guard rfl rfl rfl rfl rfl ?_
    refine RW.off_guard rfl rfl rfl rfl rfl ?_
    refine RW.op1 rfl (runs_pick_true rfl rfl rfl) ?_
    refine RW.op1 rfl (runs_move rfl) ?_
    refine RW.off_guard rfl rfl rfl rfl rfl ?_
    refine RW.off_guard rfl rfl rfl rfl rfl ?_
    refine RW.op1 rfl (runs_pick_true rfl rfl rfl) ?_
    refine RW.op1 rfl (runs_move rfl) ?_
    refine RW.off_guard rfl rfl rfl rfl rfl ?_
    refine RW.off_guard rfl rfl rfl rfl rfl ?_
    refine RW.off_guard rfl rfl rfl rfl rfl ?_
    refine RW.op1 rfl (runs_pick_true rfl rfl rfl) ?_
    refine RW.done ?_
    refine AQ.next ?_
    refine CW.cond_true rfl ?_
    refine CW.seq ?_
    -- region 2
    refine CW.region ?_
    refine RW.op1 rfl (runs_assign rfl) ?_
    refine RW.op1 rfl (runs_assign rfl) ?_
    refine RW.done ?_
    refine AQ.next ?_
    refine CW.ret ?_
    refine AQ.past_ret ?_
    refine AQ.ret2 rfl rfl rfl ?_
    have hs : sealM e s p n b = false := by
      unfold sealM
      cases hm : mayM e s <;> simp_all <;> omega
    rw [hs]
    exact ⟨I, _, [], Imm.le.refl I, rfl, hst.drop1, GrowB.nil _⟩
  · have hb16p := hb16
    try simp only [decide_eq_true_eq, decide_eq_false_iff_not] at hb16p
    refine RW.on_guard rfl rfl rfl rfl hb16 ?_
    refine RW.op1 rfl (runs_move rfl) ?_
    refine RW.on_guard rfl rfl rfl rfl hb16 ?_
    refine RW.op1 rfl (runs_lss rfl rfl) ?_
    refine RW.op1 rfl (runs_pick_false rfl hb16 rfl) ?_
    refine RW.op1 rfl (runs_move rfl) ?_
    refine RW.split (t := 20) rfl (fun hb20 => ?_) (fun hb20 => ?_)
    · have hb20p := hb20
      try simp only [decide_eq_true_eq, decide_eq_false_iff_not] at hb20p
      refine RW.off_guard rfl rfl rfl rfl hb20 ?_
      refine RW.off_guard rfl rfl rfl rfl hb20 ?_
      refine RW.off_guard rfl rfl rfl rfl hb20 ?_
      refine RW.op1 rfl (runs_pick_true rfl hb20 rfl) ?_
      refine RW.op1 rfl (runs_move rfl) ?_
      refine RW.off_guard rfl rfl rfl rfl rfl ?_
      refine RW.off_guard rfl rfl rfl rfl rfl ?_
      refine RW.op1 rfl (runs_pick_true rfl rfl rfl) ?_
      refine RW.op1 rfl (runs_move rfl) ?_
      refine RW.off_guard rfl rfl rfl rfl rfl ?_
      refine RW.off_guard rfl rfl rfl rfl rfl ?_
      refine RW.off_guard rfl rfl rfl rfl rfl ?_
      refine RW.op1 rfl (runs_pick_true rfl rfl rfl) ?_
      refine RW.done ?_
      refine AQ.next ?_
      refine CW.cond_true rfl ?_
      refine CW.seq ?_
      -- region 2
      refine CW.region ?_
      refine RW.op1 rfl (runs_assign rfl) ?_
      refine RW.op1 rfl (runs_assign rfl) ?_
      refine RW.done ?_
      refine AQ.next ?_
      refine CW.ret ?_
      refine AQ.past_ret ?_
      refine AQ.ret2 rfl rfl rfl ?_
      have hs : sealM e s p n b = false := by
        unfold sealM
        cases hm : mayM e s <;> simp_all <;> omega
      rw [hs]
      exact ⟨I, _, [], Imm.le.refl I, rfl, hst.drop1, GrowB.nil _⟩
    · have hb20p := hb20
      try simp only [decide_eq_true_eq, decide_eq_false_iff_not] at hb20p
      refine RW.on_guard rfl rfl rfl rfl hb20 ?_
      refine RW.op1 rfl (runs_move rfl) ?_
      refine RW.on_guard rfl rfl rfl rfl hb20 ?_
      refine RW.op1 rfl (runs_move rfl) ?_
      refine RW.on_guard rfl rfl rfl rfl hb20 ?_
      refine RW.op1 rfl (runs_geq rfl rfl) ?_
      refine RW.op1 rfl (runs_pick_false rfl hb20 rfl) ?_
      refine RW.op1 rfl (runs_move rfl) ?_
      refine RW.split (t := 25) rfl (fun hb25 => ?_) (fun hb25 => ?_)
      · have hb25p := hb25
        try simp only [decide_eq_true_eq, decide_eq_false_iff_not] at hb25p
        refine RW.off_guard rfl rfl rfl rfl hb25 ?_
        refine RW.off_guard rfl rfl rfl rfl hb25 ?_
        refine RW.op1 rfl (runs_pick_true rfl hb25 rfl) ?_
        refine RW.op1 rfl (runs_move rfl) ?_
        refine RW.off_guard rfl rfl rfl rfl rfl ?_
        refine RW.off_guard rfl rfl rfl rfl rfl ?_
        refine RW.off_guard rfl rfl rfl rfl rfl ?_
        refine RW.op1 rfl (runs_pick_true rfl rfl rfl) ?_
        refine RW.done ?_
        refine AQ.next ?_
        refine CW.cond_true rfl ?_
        refine CW.seq ?_
        -- region 2
        refine CW.region ?_
        refine RW.op1 rfl (runs_assign rfl) ?_
        refine RW.op1 rfl (runs_assign rfl) ?_
        refine RW.done ?_
        refine AQ.next ?_
        refine CW.ret ?_
        refine AQ.past_ret ?_
        refine AQ.ret2 rfl rfl rfl ?_
        have hs : sealM e s p n b = false := by
          unfold sealM
          cases hm : mayM e s <;> simp_all <;> omega
        rw [hs]
        exact ⟨I, _, [], Imm.le.refl I, rfl, hst.drop1, GrowB.nil _⟩
      · have hb25p := hb25
        try simp only [decide_eq_true_eq, decide_eq_false_iff_not] at hb25p
        refine RW.on_guard rfl rfl rfl rfl hb25 ?_
        refine RW.op1 rfl (runs_move rfl) ?_
        refine RW.on_guard rfl rfl rfl rfl hb25 ?_
        refine RW.op1 rfl (runs_gtr rfl rfl) ?_
        refine RW.op1 rfl (runs_pick_false rfl hb25 rfl) ?_
        refine RW.op1 rfl (runs_move rfl) ?_
        refine RW.split (t := 29) rfl (fun hb29 => ?_) (fun hb29 => ?_)
        · have hb29p := hb29
          try simp only [decide_eq_true_eq, decide_eq_false_iff_not] at hb29p
          refine RW.off_guard rfl rfl rfl rfl hb29 ?_
          refine RW.off_guard rfl rfl rfl rfl hb29 ?_
          refine RW.off_guard rfl rfl rfl rfl hb29 ?_
          refine RW.op1 rfl (runs_pick_true rfl hb29 rfl) ?_
          refine RW.done ?_
          refine AQ.next ?_
          refine CW.cond_true rfl ?_
          refine CW.seq ?_
          -- region 2
          refine CW.region ?_
          refine RW.op1 rfl (runs_assign rfl) ?_
          refine RW.op1 rfl (runs_assign rfl) ?_
          refine RW.done ?_
          refine AQ.next ?_
          refine CW.ret ?_
          refine AQ.past_ret ?_
          refine AQ.ret2 rfl rfl rfl ?_
          have hs : sealM e s p n b = false := by
            unfold sealM
            cases hm : mayM e s <;> simp_all <;> omega
          rw [hs]
          exact ⟨I, _, [], Imm.le.refl I, rfl, hst.drop1, GrowB.nil _⟩
        · have hb29p := hb29
          try simp only [decide_eq_true_eq, decide_eq_false_iff_not] at hb29p
          refine RW.on_guard rfl rfl rfl rfl hb29 ?_
          refine RW.op1 rfl (runs_move rfl) ?_
          refine RW.on_guard rfl rfl rfl rfl hb29 ?_
          first
            | refine RW.op1 rfl (RdL.len Try.underlying33 rfl (by assumption)) ?_
            | refine RW.op1 rfl (runs_lenL Try.underlying33 rfl) ?_
            | refine RW.op1 rfl (Grow.len Try.underlying33 rfl (by assumption)) ?_
          refine RW.on_guard rfl rfl rfl rfl hb29 ?_
          refine RW.op1 rfl (runs_gtr rfl rfl) ?_
          refine RW.op1 rfl (runs_pick_false rfl hb29 rfl) ?_
          refine RW.done ?_
          refine AQ.next ?_
          refine CW.cond rfl (fun hc33 => ?_) (fun hc33 => ?_)
          · have hcb33 := hc33
            try simp only [decide_eq_true_eq, decide_eq_false_iff_not] at hc33
            refine CW.seq ?_
            -- region 2
            refine CW.region ?_
            refine RW.op1 rfl (runs_assign rfl) ?_
            refine RW.op1 rfl (runs_assign rfl) ?_
            refine RW.done ?_
            refine AQ.next ?_
            refine CW.ret ?_
            refine AQ.past_ret ?_
            refine AQ.ret2 rfl rfl rfl ?_
            have hs : sealM e s p n b = false := by
              unfold sealM
              cases hm : mayM e s <;> simp_all <;> omega
            rw [hs]
            exact ⟨I, _, [], Imm.le.refl I, rfl, hst.drop1, GrowB.nil _⟩
          · have hcb33 := hc33
            try simp only [decide_eq_true_eq, decide_eq_false_iff_not] at hc33
            refine CW.skip ?_
            refine AQ.next ?_
            refine CW.seq ?_
            -- region 3
            refine CW.region ?_
            first
              | refine RW.op1 rfl (runs_fieldAddr0 rfl Try.underlying38 rfl ti3 (by decide)) ?_
              | refine RW.op1 rfl (runs_fieldAddr rfl Try.underlying38 rfl ti3 (by decide)) ?_
            first
              | refine RW.op1 rfl (runs_load1 sc3 rfl (hst.cell_own (k := 0) rfl rfl)) ?_
              | refine RW.op1 rfl (runs_load1 sc3 rfl (hst.cell_own (k := 1) rfl rfl)) ?_
              | refine RW.op1 rfl (runs_load1 sc3 rfl (hst.cell_own (k := 2) rfl rfl)) ?_
            refine RW.op1 rfl (runs_shrE (n := 8) rfl rfl (by decide)) ?_
            refine RW.op1 rfl (runs_convB (by rw [Try.underlying3]; rfl) Try.underlying5 rfl) ?_
            first
              | refine RW.op1 rfl (runs_fieldAddr0 rfl Try.underlying38 rfl ti3 (by decide)) ?_
              | refine RW.op1 rfl (runs_fieldAddr rfl Try.underlying38 rfl ti3 (by decide)) ?_
            first
              | refine RW.op1 rfl (runs_load1 sc3 rfl (hst.cell_own (k := 0) rfl rfl)) ?_
              | refine RW.op1 rfl (runs_load1 sc3 rfl (hst.cell_own (k := 1) rfl rfl)) ?_
              | refine RW.op1 rfl (runs_load1 sc3 rfl (hst.cell_own (k := 2) rfl rfl)) ?_
            refine RW.op1 rfl (runs_convB (by rw [Try.underlying3]; rfl) Try.underlying5 rfl) ?_
            refine RW.opE rfl (runs_litB (bs := two e) rfl Try.underlying33 ti5 (by decide) rfl rfl rfl hst) ?_
            rintro u3 w ⟨I3, hI3, hstn, h3⟩
            clear hst
            have hst := hstn
            clear hstn
            replace hv := hv.mono hI3
            replace hle := hle.trans hI3
            refine RW.op1 rfl (runs_assign rfl) ?_
            refine RW.done ?_
            refine AQ.next ?_
            refine CW.seq ?_
            -- region 4
            refine CW.region ?_
            first
              | refine RW.op1 rfl (runs_fieldAddr0 rfl Try.underlying38 rfl ti3 (by decide)) ?_
              | refine RW.op1 rfl (runs_fieldAddr rfl Try.underlying38 rfl ti3 (by decide)) ?_
            first
              | refine RW.op1 rfl (runs_load1 sc3 rfl (hst.cell_own (k := 0) rfl rfl)) ?_
              | refine RW.op1 rfl (runs_load1 sc3 rfl (hst.cell_own (k := 1) rfl rfl)) ?_
              | refine RW.op1 rfl (runs_load1 sc3 rfl (hst.cell_own (k := 2) rfl rfl)) ?_
            refine RW.op1 rfl (runs_shrE (n := 16) rfl rfl (by decide)) ?_
            refine RW.op1 rfl (runs_convB (by rw [Try.underlying3]; rfl) Try.underlying5 rfl) ?_
            first
              | refine RW.op1 rfl (runs_fieldAddr0 rfl Try.underlying38 rfl ti3 (by decide)) ?_
              | refine RW.op1 rfl (runs_fieldAddr rfl Try.underlying38 rfl ti3 (by decide)) ?_
            first
              | refine RW.op1 rfl (runs_load1 sc3 rfl (hst.cell_own (k := 0) rfl rfl)) ?_
              | refine RW.op1 rfl (runs_load1 sc3 rfl (hst.cell_own (k := 1) rfl rfl)) ?_
              | refine RW.op1 rfl (runs_load1 sc3 rfl (hst.cell_own (k := 2) rfl rfl)) ?_
            refine RW.op1 rfl (runs_shrE (n := 8) rfl rfl (by decide)) ?_
            refine RW.op1 rfl (runs_convB (by rw [Try.underlying3]; rfl) Try.underlying5 rfl) ?_
            first
              | refine RW.op1 rfl (runs_fieldAddr0 rfl Try.underlying38 rfl ti3 (by decide)) ?_
              | refine RW.op1 rfl (runs_fieldAddr rfl Try.underlying38 rfl ti3 (by decide)) ?_
            first
              | refine RW.op1 rfl (runs_load1 sc3 rfl (hst.cell_own (k := 0) rfl rfl)) ?_
              | refine RW.op1 rfl (runs_load1 sc3 rfl (hst.cell_own (k := 1) rfl rfl)) ?_
              | refine RW.op1 rfl (runs_load1 sc3 rfl (hst.cell_own (k := 2) rfl rfl)) ?_
            refine RW.op1 rfl (runs_convB (by rw [Try.underlying3]; rfl) Try.underlying5 rfl) ?_
            refine RW.opE rfl (runs_litB (bs := three s) rfl Try.underlying33 ti5 (by decide) rfl rfl rfl hst) ?_
            rintro u4 w ⟨I4, hI4, hstn, h4⟩
            clear hst
            have hst := hstn
            clear hstn
            replace hv := hv.mono hI4
            replace h3 := h3.mono hI4
            replace hle := hle.trans hI4
            refine RW.op1 rfl (runs_assign rfl) ?_
            refine RW.done ?_
            refine AQ.next ?_
            refine CW.seq ?_
            -- region 5
            refine CW.region ?_
            refine RW.opE rfl (runs_litB0 Try.underlying33 ti5 hst) ?_
            rintro u5 w ⟨Lv5, hstn, hg5⟩
            clear hst
            have hst := hstn
            clear hstn
            refine RW.op1 rfl (runs_move rfl) ?_
            refine RW.opE rfl (runs_appendB Try.underlying33 ti5 rfl rfl hst (by assumption) (by assumption) (by (try simp) <;> omega)) ?_
            rintro u6 w ⟨Lv6, hstn, hg6⟩
            clear hst
            have hst := hstn
            clear hstn
            refine RW.op1 rfl (runs_move rfl) ?_
            refine RW.opE rfl (runs_appendB Try.underlying33 ti5 rfl rfl hst (by assumption) (by assumption) (by (try simp) <;> omega)) ?_
            rintro u7 w ⟨Lv7, hstn, hg7⟩
            clear hst
            have hst := hstn
            clear hstn
            refine RW.op1 rfl (runs_assign rfl) ?_
            refine RW.done ?_
            refine AQ.next ?_
            refine CW.seq ?_
            -- region 6
            refine CW.region ?_
            refine RW.op1 rfl (runs_move rfl) ?_
            refine RW.op1 rfl (runs_move rfl) ?_
            refine RW.op1 rfl (runs_convB (by rw [Try.underlying3]; rfl) Try.underlying5 rfl) ?_
            refine RW.op1 rfl (runs_move rfl) ?_
            refine RW.op1 rfl (runs_convB (by rw [Try.underlying3]; rfl) Try.underlying5 rfl) ?_
            refine RW.op1 rfl (runs_move rfl) ?_
            first
              | refine RW.op1 rfl (RdL.len Try.underlying33 rfl (by assumption)) ?_
              | refine RW.op1 rfl (runs_lenL Try.underlying33 rfl) ?_
              | refine RW.op1 rfl (Grow.len Try.underlying33 rfl (by assumption)) ?_
            refine RW.op1 rfl (runs_convB (by rw [Try.underlying3]; rfl) Try.underlying5 rfl) ?_
            refine RW.opE rfl (runs_litB (bs := [_, _, _]) rfl Try.underlying33 ti5 (by decide) rfl rfl rfl hst) ?_
            rintro u8 w ⟨I8, hI8, hstn, h8⟩
            clear hst
            have hst := hstn
            clear hstn
            replace hv := hv.mono hI8
            replace h3 := h3.mono hI8
            replace h4 := h4.mono hI8
            replace hle := hle.trans hI8
            refine RW.opE rfl (runs_appendB Try.underlying33 ti5 rfl rfl hst (by assumption) (by assumption) (by (try simp) <;> omega)) ?_
            rintro u9 w ⟨Lv9, hstn, hg9⟩
            clear hst
            have hst := hstn
            clear hstn
            refine RW.op1 rfl (runs_assign rfl) ?_
            refine RW.done ?_
            refine AQ.next ?_
            refine CW.seq ?_
            -- region 7
            refine CW.region ?_
            refine RW.op1 rfl (runs_move rfl) ?_
            refine RW.op1 rfl (runs_move rfl) ?_
            refine RW.opE rfl (runs_appendB Try.underlying33 ti5 rfl rfl hst (by assumption) (by assumption) (by (try simp) <;> omega)) ?_
            rintro u10 w ⟨Lv10, hstn, hg10⟩
            clear hst
            have hst := hstn
            clear hstn
            refine RW.op1 rfl (runs_assign rfl) ?_
            refine RW.done ?_
            refine AQ.next ?_
            refine CW.seq ?_
            -- region 8
            refine CW.region ?_
            refine RW.op1 rfl (runs_move rfl) ?_
            refine RW.op1 rfl (runs_move rfl) ?_
            first
              | refine RW.op1 rfl (RdL.len Try.underlying33 rfl (by assumption)) ?_
              | refine RW.op1 rfl (runs_lenL Try.underlying33 rfl) ?_
              | refine RW.op1 rfl (Grow.len Try.underlying33 rfl (by assumption)) ?_
            refine RW.op1 rfl (runs_sub rfl rfl (by simp <;> omega)) ?_
            refine RW.opE rfl (runs_appendZ (m := 19 - b.length) Try.underlying33 ti5 Try.underlying3 rfl (by simp [ev, Env.get]; omega) hst (by assumption) (by simp <;> omega)) ?_
            rintro u11 w ⟨Lv11, hstn, hg11⟩
            clear hst
            have hst := hstn
            clear hstn
            refine RW.op1 rfl (runs_assign rfl) ?_
            refine RW.done ?_
            refine AQ.next ?_
            refine CW.seq ?_
            -- region 9
            refine CW.region ?_
            refine RW.op1 rfl (runs_move rfl) ?_
            refine RW.op1 rfl (runs_move rfl) ?_
            refine RW.opE rfl (runs_appendB Try.underlying33 ti5 rfl rfl hst (by assumption) (by assumption) (by (try simp) <;> omega)) ?_
            rintro u12 w ⟨Lv12, hstn, hg12⟩
            clear hst
            have hst := hstn
            clear hstn
            refine RW.op1 rfl (runs_move rfl) ?_
            refine RW.opE rfl (runs_appendB Try.underlying33 ti5 rfl rfl hst (by assumption) (by assumption) (by (try simp) <;> omega)) ?_
            rintro u13 w ⟨Lv13, hstn, hg13⟩
            clear hst
            have hst := hstn
            clear hstn
            refine RW.op1 rfl (runs_assign rfl) ?_
            refine RW.op1 rfl (runs_assign rfl) ?_
            refine RW.done ?_
            refine AQ.next ?_
            refine CW.ret ?_
            refine AQ.ret2 rfl rfl rfl ?_
            have hs : sealM e s p n b = true := by
              unfold sealM
              cases hm : mayM e s <;> simp_all <;> omega
            rw [hs]
            exact ⟨_, _, _, hle, rfl, St.sub hst (List.Sublist.append_left (List.sublist_cons_self _ _) _), by assumption⟩
theorem seal_spec {w0 w : World} {I : Imm} {L : Own} (hst : St w0 w I L) (e s p n : Int) {v : Value} {b : List UInt8} (hv : RdB I v b) (hb : b.length ≤ 9223372036854775807) :
    Calls Try.prog 14 #[.agg #[.int .i64 e, .int .i64 s], .int .i64 p, .int .i64 n, v] w fun r w' => ∃ I' v', Imm.le I I' ∧ r = .returned (.tuple #[v', .int .i64 (if sealM e s p n b then 0 else 1)]) ∧ St w0 w' I' L ∧ RdB I' v' (if sealM e s p n b then sealB e s p n b else []) := by
  refine (seal_own hst e s p n hv hb).mono fun e w' ⟨I1, v', Lv, h0, h1, h2, h3⟩ => ?_
  obtain ⟨I', hI, hst, hr⟩ := GrowB.freeze h3 h2
  exact ⟨I', v', h0.trans hI, h1, hst, hr⟩
end Go.Proofs.YthocicjjighbnaaX
