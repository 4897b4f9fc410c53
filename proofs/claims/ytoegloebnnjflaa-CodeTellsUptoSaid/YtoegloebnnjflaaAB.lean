/- The document's decoding: what it comes to. -/
import Derived.Test.YtoegloebnnjflaaT
import Derived.Test.YtoegloebnnjflaaAA
namespace Go.Proofs.YtoegloebnnjflaaX
set_option linter.unusedVariables false
set_option linter.unusedSimpArgs false
open Go Go.RowKit Go.Proofs

theorem app_one (av : List AV) (a : AV) : ((fun x => av ++ x) ∘ (fun x => a :: x)) = fun x => (av ++ [a]) ++ x := by
  funext x
  simp
set_option maxRecDepth 100000 in
set_option maxHeartbeats 1000000 in
theorem refdec_spec {w0 w : World} {I : Imm} {L : Own} (hst : St w0 w I L) {v : Value} {b : List UInt8} (hv : RdB I v b) (hlen : b.length ≤ 2000000) :
    Calls Try.prog 21 #[v] w fun r w' => ∃ I' v', Imm.le I I' ∧ r = .returned (.tuple #[v', .bool (decA b).isSome]) ∧ St w0 w' I' L ∧ RdV I' v' ((decA b).getD []) := by
  refine enter Try.func21 rfl (N := 103) rfl rfl ?_
  simp only [List.zipIdx_cons, List.zipIdx_nil, List.map_cons, List.map_nil, Nat.zero_add, Nat.reduceAdd]
  have hle := Imm.le.refl I
  refine CW.seq ?_
  -- region 0
  refine CW.region ?_
  refine RW.op1 rfl (runs_assign rfl) ?_
  refine RW.op1 rfl (runs_assign rfl) ?_
  refine RW.done ?_
  refine AQ.next ?_
  refine CW.seq ?_
  -- region 1
  refine CW.region ?_
  refine RW.op1 rfl (runs_assign rfl) ?_
  refine RW.done ?_
  refine AQ.next ?_
  refine CW.seq ?_
  refine CW.block ?_
  -- loop 1
  refine CW.loop (Nat × Value × Value × List AV × Own × Imm) (fun x w => I.le x.2.2.2.2.2 ∧ St w0 w x.2.2.2.2.2 (x.2.2.2.2.1 ++ L) ∧ RdB x.2.2.2.2.2 x.2.1 (b.drop x.1) ∧ GrowV x.2.2.1 x.2.2.2.1 x.2.2.2.2.1 ∧ decA b = (decA (b.drop x.1)).map (x.2.2.2.1 ++ ·) ∧ x.1 ≤ b.length ∧ x.2.2.2.1.length ≤ x.1) (fun x => [(0, x.2.1), (4, x.2.2.1)]) (fun x => b.length - x.1) ⟨(0, v, .slice none 0 0, [], [], I), ⟨Imm.le.refl _, hst, hv, Grow.nil _ _, by simp, Nat.zero_le _, Nat.le_refl _⟩, ⟨rfl, rfl, trivial⟩⟩ ?_
  rintro ⟨p, vb, vo, av, Lo, I5⟩ w ⟨hle, hstn, hb, hg, hd, hp, hal⟩
  dsimp only at hle hstn hb hg hd hp hal ⊢
  clear hst
  have hst := hstn
  clear hstn
  have hdl : (b.drop p).length = b.length - p := List.length_drop
  have hb0 := bat_lt (b.drop p) 0
  have hb1 := bat_lt (b.drop p) 1
  refine CW.seq ?_
  refine CW.seq ?_
  -- region 2
  refine CW.region ?_
  refine RW.op1 rfl (runs_move rfl) ?_
  refine RW.op1 rfl (RdL.len Try.underlying26 rfl hb) ?_
  refine RW.op1 rfl (runs_gtr rfl rfl) ?_
  refine RW.done ?_
  refine AQ.next ?_
  refine CW.cond rfl (fun hc10 => ?_) (fun hc10 => ?_)
  · have hcb10 := hc10
    try simp only [decide_eq_true_eq, decide_eq_false_iff_not] at hc10
    have hpos : 0 < (b.drop p).length := by omega
    have hpos2 : p < b.length := by omega
    refine CW.skip ?_
    refine AQ.next ?_
    refine CW.block ?_
    refine CW.block ?_
    refine CW.seq ?_
    -- region 4
    refine CW.region ?_
    refine RW.op1 rfl (runs_move rfl) ?_
    first
      | refine RW.op1 rfl (RdL.indexAddr Try.underlying26 ti5 (by decide) rfl rfl (by assumption) (by omega)) ?_
      | refine RW.op1 rfl (runs_indexAddr0 Try.underlying26 ti5 rfl rfl (by omega)) ?_
    first
      | refine RW.op1 rfl (runs_load1 sc5 rfl (hst.cell_imm (RdB.at (by assumption) (by omega) (by omega)))) ?_
      | refine RW.op1 rfl (runs_load1 sc5 rfl (hst.cell_own (k := 0) rfl rfl)) ?_
      | refine RW.op1 rfl (runs_load1 sc5 rfl (hst.cell_own (k := 1) rfl rfl)) ?_
      | refine RW.op1 rfl (runs_load1 sc5 rfl (hst.cell_own (k := 2) rfl rfl)) ?_
    refine RW.op1 rfl (runs_eqI rfl rfl) ?_
    refine RW.op1 rfl (runs_move rfl) ?_
    refine RW.split (t := 16) rfl (fun hb16 => ?_) (fun hb16 => ?_)
    · have hb16p := hb16
      try simp only [decide_eq_true_eq, decide_eq_false_iff_not] at hb16p
      refine RW.off_guard rfl rfl rfl rfl hb16 ?_
      refine RW.off_guard rfl rfl rfl rfl hb16 ?_
      refine RW.off_guard rfl rfl rfl rfl hb16 ?_
      refine RW.off_guard rfl rfl rfl rfl hb16 ?_
      refine RW.op1 rfl (runs_pick_true rfl hb16 rfl) ?_
      refine RW.op1 rfl (runs_assign rfl) ?_
      refine RW.done ?_
      refine AQ.next ?_
      refine CW.cond_true rfl ?_
      -- region 5
      refine CW.draw (FSt w0 I5 L) (.q 0 (.q 1 (.q 2 (.q 3 (.q 4 (.q 8 (.q 9 (.l 5 (.l 6 (.l 7 (.q 10 (.q 11 .nil)))))))))))) follows (by kernel_rfl) ⟨_, Imm.le.refl _, hst.draw.sub (List.sublist_append_right _ _)⟩ ?_
      replace hst := hst.draw
      refine DRW.q rfl rfl (fun w' hF => runs_move rfl) ?_
      refine DRW.q rfl rfl (fun w' hF => runs_move rfl) ?_
      first
        | refine DRW.q rfl rfl (fun w' hF => RdL.indexAddr Try.underlying26 ti5 (by decide) rfl rfl (by assumption) (by omega)) ?_
        | refine DRW.q rfl rfl (fun w' hF => runs_indexAddr0 Try.underlying26 ti5 rfl rfl (by omega)) ?_
      first
        | refine DRW.q rfl rfl (FSt.load1 sc5 rfl (RdB.at (by assumption) (by omega) (by omega))) ?_
        | refine DRW.q rfl rfl (FSt.load1_own sc5 rfl (k := 0) rfl rfl) ?_
        | refine DRW.q rfl rfl (FSt.load1_own sc5 rfl (k := 1) rfl rfl) ?_
        | refine DRW.q rfl rfl (FSt.load1_own sc5 rfl (k := 2) rfl rfl) ?_
      refine DRW.q rfl rfl (fun w' hF => runs_eqI rfl rfl) ?_
      refine DRW.q rfl rfl (fun w' hF => runs_move rfl) ?_
      have hp31 := RdB.part hb (lo := (1 : Int).toNat) (hi := (b.drop p).length) (by omega) (by omega)
      rw [List.take_of_length_le (by rw [List.length_drop]; omega)] at hp31
      refine DRW.q rfl rfl (fun w' hF => RdL.slice_l Try.underlying26 ti5 rfl rfl hb (by omega)) ?_
      refine DRW.call rfl rfl call30 rfl rfl (refB_spec hst (decide (bat (b.drop p) 0 = 116))) ?_
      rintro e w ⟨rfl, hstn⟩
      clear hst
      have hst := hstn
      clear hstn
      refine ⟨_, rfl, FSt.of hst (Imm.le.refl _) (by first | exact List.sublist_append_right _ _ | exact (List.sublist_append_right _ _).trans (List.sublist_append_right _ _)), ?_⟩
      refine DRW.opE rfl rfl (runs_litF (xs := [.agg #[_, _, _, _]]) Try.underlying50 ti55 (by decide) rfl rfl rfl rfl rfl hst (by decide)) ?_
      rintro u2 w ⟨Lv2, hstn, hg2⟩
      clear hst
      have hst := hstn
      clear hstn
      refine ⟨FSt.of hst (Imm.le.refl _) (by first | exact List.sublist_append_right _ _ | exact (List.sublist_append_right _ _).trans (List.sublist_append_right _ _)), ?_⟩
      obtain ⟨J2, hJ2, hstn, h2⟩ := Grow.freeze hg2 hst
      clear hst
      have hst := hstn
      clear hstn
      replace hb := hb.mono hJ2
      replace hp31 := hp31.mono hJ2
      replace hle := hle.trans hJ2
      try simp only [List.nil_append] at h2
      replace h2 : RdL _ 4 u2 1 (refRow (.flg (decide (bat (b.drop p) 0 = 116)))) := h2
      have hR28 := h2
      refine DRW.opE rfl rfl (runs_appendR Try.underlying50 ti55 rfl (by decide) rfl rfl hst hg hR28 (by omega) (by unfold maxLen; omega)) ?_
      rintro u3 w ⟨Lv3, hstn, hg3⟩
      clear hst
      have hst := hstn
      clear hstn
      refine ⟨FSt.of hst hJ2 (by first | exact List.sublist_append_right _ _ | exact (List.sublist_append_right _ _).trans (List.sublist_append_right _ _)), ?_⟩
      refine DRW.q rfl rfl (fun w' hF => runs_assign rfl) ?_
      refine DRW.q rfl rfl (fun w' hF => runs_assign rfl) ?_
      refine DRW.done ?_
      refine AQ.block_normal ?_
      refine AQ.block_normal ?_
      have hd1 : dec1 (b.drop p) = some (.flg (decide (bat (b.drop p) 0 = 116)), _) := dec1_flg (by omega)
      have hk1 := dec1_pos hd1
      have hk2 := dec1_le hpos hd1
      skip
      rw [List.drop_drop] at hp31
      have hd2 := decA_some hpos hd1
      rw [List.drop_drop (i := 1)] at hd2
      exact AQ.again (x := (p, vb, vo, av, Lo, I5)) (p + _, _, _, av ++ [.flg (decide (bat (b.drop p) 0 = 116))], _, _) ⟨hle, hst, hp31, GrowV.push (by assumption), by rw [hd, hd2, Option.map_map, app_one] <;> rfl, by omega, by rw [List.length_append]; simp only [List.length_cons, List.length_nil]; omega⟩ ⟨rfl, rfl, trivial⟩ (by dsimp only; omega)
    · have hb16p := hb16
      try simp only [decide_eq_true_eq, decide_eq_false_iff_not] at hb16p
      refine RW.on_guard rfl rfl rfl rfl hb16 ?_
      refine RW.op1 rfl (runs_move rfl) ?_
      refine RW.on_guard rfl rfl rfl rfl hb16 ?_
      first
        | refine RW.op1 rfl (RdL.indexAddr Try.underlying26 ti5 (by decide) rfl rfl (by assumption) (by omega)) ?_
        | refine RW.op1 rfl (runs_indexAddr0 Try.underlying26 ti5 rfl rfl (by omega)) ?_
      refine RW.on_guard rfl rfl rfl rfl hb16 ?_
      first
        | refine RW.op1 rfl (runs_load1 sc5 rfl (hst.cell_imm (RdB.at (by assumption) (by omega) (by omega)))) ?_
        | refine RW.op1 rfl (runs_load1 sc5 rfl (hst.cell_own (k := 0) rfl rfl)) ?_
        | refine RW.op1 rfl (runs_load1 sc5 rfl (hst.cell_own (k := 1) rfl rfl)) ?_
        | refine RW.op1 rfl (runs_load1 sc5 rfl (hst.cell_own (k := 2) rfl rfl)) ?_
      refine RW.on_guard rfl rfl rfl rfl hb16 ?_
      refine RW.op1 rfl (runs_eqI rfl rfl) ?_
      refine RW.op1 rfl (runs_pick_false rfl hb16 rfl) ?_
      refine RW.op1 rfl (runs_assign rfl) ?_
      refine RW.done ?_
      refine AQ.next ?_
      refine CW.cond rfl (fun hc11 => ?_) (fun hc11 => ?_)
      · have hcb11 := hc11
        try simp only [decide_eq_true_eq, decide_eq_false_iff_not] at hc11
        -- region 5
        refine CW.draw (FSt w0 I5 L) (.q 0 (.q 1 (.q 2 (.q 3 (.q 4 (.q 8 (.q 9 (.l 5 (.l 6 (.l 7 (.q 10 (.q 11 .nil)))))))))))) follows (by kernel_rfl) ⟨_, Imm.le.refl _, hst.draw.sub (List.sublist_append_right _ _)⟩ ?_
        replace hst := hst.draw
        refine DRW.q rfl rfl (fun w' hF => runs_move rfl) ?_
        refine DRW.q rfl rfl (fun w' hF => runs_move rfl) ?_
        first
          | refine DRW.q rfl rfl (fun w' hF => RdL.indexAddr Try.underlying26 ti5 (by decide) rfl rfl (by assumption) (by omega)) ?_
          | refine DRW.q rfl rfl (fun w' hF => runs_indexAddr0 Try.underlying26 ti5 rfl rfl (by omega)) ?_
        first
          | refine DRW.q rfl rfl (FSt.load1 sc5 rfl (RdB.at (by assumption) (by omega) (by omega))) ?_
          | refine DRW.q rfl rfl (FSt.load1_own sc5 rfl (k := 0) rfl rfl) ?_
          | refine DRW.q rfl rfl (FSt.load1_own sc5 rfl (k := 1) rfl rfl) ?_
          | refine DRW.q rfl rfl (FSt.load1_own sc5 rfl (k := 2) rfl rfl) ?_
        refine DRW.q rfl rfl (fun w' hF => runs_eqI rfl rfl) ?_
        refine DRW.q rfl rfl (fun w' hF => runs_move rfl) ?_
        have hp31 := RdB.part hb (lo := (1 : Int).toNat) (hi := (b.drop p).length) (by omega) (by omega)
        rw [List.take_of_length_le (by rw [List.length_drop]; omega)] at hp31
        refine DRW.q rfl rfl (fun w' hF => RdL.slice_l Try.underlying26 ti5 rfl rfl hb (by omega)) ?_
        refine DRW.call rfl rfl call30 rfl rfl (refB_spec hst (decide (bat (b.drop p) 0 = 116))) ?_
        rintro e w ⟨rfl, hstn⟩
        clear hst
        have hst := hstn
        clear hstn
        refine ⟨_, rfl, FSt.of hst (Imm.le.refl _) (by first | exact List.sublist_append_right _ _ | exact (List.sublist_append_right _ _).trans (List.sublist_append_right _ _)), ?_⟩
        refine DRW.opE rfl rfl (runs_litF (xs := [.agg #[_, _, _, _]]) Try.underlying50 ti55 (by decide) rfl rfl rfl rfl rfl hst (by decide)) ?_
        rintro u5 w ⟨Lv5, hstn, hg5⟩
        clear hst
        have hst := hstn
        clear hstn
        refine ⟨FSt.of hst (Imm.le.refl _) (by first | exact List.sublist_append_right _ _ | exact (List.sublist_append_right _ _).trans (List.sublist_append_right _ _)), ?_⟩
        obtain ⟨J5, hJ5, hstn, h5⟩ := Grow.freeze hg5 hst
        clear hst
        have hst := hstn
        clear hstn
        replace hb := hb.mono hJ5
        replace hp31 := hp31.mono hJ5
        replace hle := hle.trans hJ5
        try simp only [List.nil_append] at h5
        replace h5 : RdL _ 4 u5 1 (refRow (.flg (decide (bat (b.drop p) 0 = 116)))) := h5
        have hR28 := h5
        refine DRW.opE rfl rfl (runs_appendR Try.underlying50 ti55 rfl (by decide) rfl rfl hst hg hR28 (by omega) (by unfold maxLen; omega)) ?_
        rintro u6 w ⟨Lv6, hstn, hg6⟩
        clear hst
        have hst := hstn
        clear hstn
        refine ⟨FSt.of hst hJ5 (by first | exact List.sublist_append_right _ _ | exact (List.sublist_append_right _ _).trans (List.sublist_append_right _ _)), ?_⟩
        refine DRW.q rfl rfl (fun w' hF => runs_assign rfl) ?_
        refine DRW.q rfl rfl (fun w' hF => runs_assign rfl) ?_
        refine DRW.done ?_
        refine AQ.block_normal ?_
        refine AQ.block_normal ?_
        have hd1 : dec1 (b.drop p) = some (.flg (decide (bat (b.drop p) 0 = 116)), _) := dec1_flg (by omega)
        have hk1 := dec1_pos hd1
        have hk2 := dec1_le hpos hd1
        skip
        rw [List.drop_drop] at hp31
        have hd2 := decA_some hpos hd1
        rw [List.drop_drop (i := 1)] at hd2
        exact AQ.again (x := (p, vb, vo, av, Lo, I5)) (p + _, _, _, av ++ [.flg (decide (bat (b.drop p) 0 = 116))], _, _) ⟨hle, hst, hp31, GrowV.push (by assumption), by rw [hd, hd2, Option.map_map, app_one] <;> rfl, by omega, by rw [List.length_append]; simp only [List.length_cons, List.length_nil]; omega⟩ ⟨rfl, rfl, trivial⟩ (by dsimp only; omega)
      · have hcb11 := hc11
        try simp only [decide_eq_true_eq, decide_eq_false_iff_not] at hc11
        refine CW.seq ?_
        -- region 6
        refine CW.region ?_
        refine RW.op1 rfl (runs_move rfl) ?_
        first
          | refine RW.op1 rfl (RdL.indexAddr Try.underlying26 ti5 (by decide) rfl rfl (by assumption) (by omega)) ?_
          | refine RW.op1 rfl (runs_indexAddr0 Try.underlying26 ti5 rfl rfl (by omega)) ?_
        first
          | refine RW.op1 rfl (runs_load1 sc5 rfl (hst.cell_imm (RdB.at (by assumption) (by omega) (by omega)))) ?_
          | refine RW.op1 rfl (runs_load1 sc5 rfl (hst.cell_own (k := 0) rfl rfl)) ?_
          | refine RW.op1 rfl (runs_load1 sc5 rfl (hst.cell_own (k := 1) rfl rfl)) ?_
          | refine RW.op1 rfl (runs_load1 sc5 rfl (hst.cell_own (k := 2) rfl rfl)) ?_
        refine RW.op1 rfl (runs_eqI rfl rfl) ?_
        refine RW.op1 rfl (runs_move rfl) ?_
        refine RW.split (t := 37) rfl (fun hb37 => ?_) (fun hb37 => ?_)
        · have hb37p := hb37
          try simp only [decide_eq_true_eq, decide_eq_false_iff_not] at hb37p
          refine RW.on_guard rfl rfl rfl rfl hb37 ?_
          refine RW.op1 rfl (runs_move rfl) ?_
          refine RW.on_guard rfl rfl rfl rfl hb37 ?_
          first
            | refine RW.op1 rfl (RdL.len Try.underlying26 rfl (by assumption)) ?_
            | refine RW.op1 rfl (runs_lenL Try.underlying26 rfl) ?_
            | refine RW.op1 rfl (Grow.len Try.underlying26 rfl (by assumption)) ?_
          refine RW.on_guard rfl rfl rfl rfl hb37 ?_
          refine RW.op1 rfl (runs_geq rfl rfl) ?_
          refine RW.op1 rfl (runs_pick_true rfl hb37 rfl) ?_
          refine RW.op1 rfl (runs_assign rfl) ?_
          refine RW.done ?_
          refine AQ.next ?_
          refine CW.cond rfl (fun hc32 => ?_) (fun hc32 => ?_)
          · have hcb32 := hc32
            try simp only [decide_eq_true_eq, decide_eq_false_iff_not] at hc32
            refine CW.seq ?_
            -- region 7
            refine CW.region ?_
            refine RW.op1 rfl (runs_assign rfl) ?_
            refine RW.done ?_
            refine AQ.next ?_
            refine CW.seq ?_
            refine CW.seq ?_
            -- region 8
            refine CW.region ?_
            refine RW.op1 rfl (runs_move rfl) ?_
            have hp43 : RdB I5 (partV vb (1 : Int).toNat (9 : Int).toNat 1) (((b.drop p).drop 1).take 8) := RdB.part hb (by omega) (by omega)
            have hl8 : (((b.drop p).drop 1).take 8).length = 8 := by rw [List.length_take, List.length_drop]; omega
            refine RW.op1 rfl (RdL.slice_lh Try.underlying26 ti5 rfl rfl rfl hb (by omega)) ?_
            refine RW.op1 rfl (RdL.len Try.underlying26 rfl hp43) ?_
            refine RW.op1 rfl (runs_move rfl) ?_
            refine RW.done ?_
            refine AQ.next ?_
            refine CW.block ?_
            -- loop 2
            refine CW.loop Nat (fun k w => St w0 w I5 (Lo ++ L) ∧ k ≤ 8) (fun k => [(0, vb), (4, vo), (5, .int .u64 (((((b.drop p).drop 1).take 8).take k).foldl nstep 0)), (43, partV vb (1 : Int).toNat (9 : Int).toNat 1), (44, .int .i64 ((((b.drop p).drop 1).take 8).length : Nat)), (45, .int .i64 (k : Int))]) (fun k => 8 - k) ⟨0, ⟨hst, by omega⟩, ⟨rfl, rfl, rfl, rfl, rfl, rfl, trivial⟩⟩ ?_
            rintro k w ⟨hstn, hk⟩
            clear hst
            have hst := hstn
            clear hstn
            refine CW.seq ?_
            -- region 9
            refine CW.region ?_
            refine RW.op1 rfl (runs_lss rfl rfl) ?_
            refine RW.done ?_
            refine AQ.next ?_
            refine CW.seq ?_
            refine CW.cond rfl (fun hc46 => ?_) (fun hc46 => ?_)
            · have hcb46 := hc46
              try simp only [decide_eq_true_eq, decide_eq_false_iff_not] at hc46
              refine CW.skip ?_
              refine AQ.next ?_
              refine CW.seq ?_
              refine CW.block ?_
              refine CW.seq ?_
              -- region 10
              refine CW.region ?_
              refine RW.op1 rfl (RdL.indexAddr Try.underlying26 ti5 (by decide) rfl rfl hp43 (by omega)) ?_
              refine RW.op1 rfl (runs_load1 sc5 rfl (hst.cell_imm (RdB.at hp43 (by omega) (by omega)))) ?_
              refine RW.op1 rfl (runs_assign rfl) ?_
              refine RW.done ?_
              refine AQ.next ?_
              -- region 11
              refine CW.region ?_
              refine RW.op1 rfl (runs_move rfl) ?_
              refine RW.op1 rfl (runs_shl (n := 8) rfl rfl (by decide)) ?_
              refine RW.op1 rfl (runs_move rfl) ?_
              refine RW.op1 rfl (runs_convI (by rw [Try.underlying5]; rfl) Try.underlying61 rfl) ?_
              refine RW.op1 rfl (runs_or rfl rfl) ?_
              refine RW.op1 rfl (runs_assign rfl) ?_
              refine RW.done ?_
              refine AQ.block_normal ?_
              refine AQ.next ?_
              -- region 12
              refine CW.region ?_
              refine RW.op1 rfl (runs_add rfl rfl (by omega)) ?_
              refine RW.op1 rfl (runs_move rfl) ?_
              refine RW.done ?_
              exact AQ.again (k + 1) ⟨hst, by omega⟩ ⟨rfl, rfl, by rw [fold_take (by omega)]; rfl, rfl, rfl, rfl, trivial⟩ (by omega)
            · have hcb46 := hc46
              try simp only [decide_eq_true_eq, decide_eq_false_iff_not] at hc46
              refine CW.exit ?_
              refine AQ.past_exit ?_
              refine AQ.past_exit ?_
              refine AQ.block_hit ?_
              refine AQ.next ?_
              -- region 13
              refine CW.draw (FSt w0 I5 L) (.q 0 (.q 1 (.q 2 (.q 6 (.q 7 (.l 3 (.l 4 (.l 5 (.q 8 (.q 9 .nil)))))))))) follows (by kernel_rfl) ⟨_, Imm.le.refl _, hst.draw.sub (List.sublist_append_right _ _)⟩ ?_
              replace hst := hst.draw
              refine DRW.q rfl rfl (fun w' hF => runs_move rfl) ?_
              refine DRW.q rfl rfl (fun w' hF => runs_move rfl) ?_
              have hk8 : (((b.drop p).drop 1).take 8).take k = (((b.drop p).drop 1).take 8) := List.take_of_length_le (by omega)
              rw [hk8]
              refine DRW.q rfl rfl (fun w' hF => runs_convI (by rw [Try.underlying61]; rfl) Try.underlying3 rfl) ?_
              refine DRW.q rfl rfl (fun w' hF => runs_move rfl) ?_
              have hp62 := RdB.part hb (lo := (9 : Int).toNat) (hi := (b.drop p).length) (by omega) (by omega)
              rw [List.take_of_length_le (by rw [List.length_drop]; omega)] at hp62
              refine DRW.q rfl rfl (fun w' hF => RdL.slice_l Try.underlying26 ti5 rfl rfl hb (by omega)) ?_
              refine DRW.call rfl rfl call28 rfl rfl (refI_spec hst (num64 (((b.drop p).drop 1).take 8))) ?_
              rintro e w ⟨rfl, hstn⟩
              clear hst
              have hst := hstn
              clear hstn
              refine ⟨_, rfl, FSt.of hst (Imm.le.refl _) (by first | exact List.sublist_append_right _ _ | exact (List.sublist_append_right _ _).trans (List.sublist_append_right _ _)), ?_⟩
              refine DRW.opE rfl rfl (runs_litF (xs := [.agg #[_, _, _, _]]) Try.underlying50 ti55 (by decide) rfl rfl rfl rfl rfl hst (by decide)) ?_
              rintro u8 w ⟨Lv8, hstn, hg8⟩
              clear hst
              have hst := hstn
              clear hstn
              refine ⟨FSt.of hst (Imm.le.refl _) (by first | exact List.sublist_append_right _ _ | exact (List.sublist_append_right _ _).trans (List.sublist_append_right _ _)), ?_⟩
              obtain ⟨J8, hJ8, hstn, h8⟩ := Grow.freeze hg8 hst
              clear hst
              have hst := hstn
              clear hstn
              replace hb := hb.mono hJ8
              replace hp62 := hp62.mono hJ8
              replace hle := hle.trans hJ8
              try simp only [List.nil_append] at h8
              replace h8 : RdL _ 4 u8 1 (refRow (.num (num64 (((b.drop p).drop 1).take 8)))) := h8
              have hR59 := h8
              refine DRW.opE rfl rfl (runs_appendR Try.underlying50 ti55 rfl (by decide) rfl rfl hst hg hR59 (by omega) (by unfold maxLen; omega)) ?_
              rintro u9 w ⟨Lv9, hstn, hg9⟩
              clear hst
              have hst := hstn
              clear hstn
              refine ⟨FSt.of hst hJ8 (by first | exact List.sublist_append_right _ _ | exact (List.sublist_append_right _ _).trans (List.sublist_append_right _ _)), ?_⟩
              refine DRW.q rfl rfl (fun w' hF => runs_assign rfl) ?_
              refine DRW.q rfl rfl (fun w' hF => runs_assign rfl) ?_
              refine DRW.done ?_
              refine AQ.block_normal ?_
              refine AQ.block_normal ?_
              have hd1 : dec1 (b.drop p) = some (.num (num64 (((b.drop p).drop 1).take 8)), _) := dec1_num (by omega) (by omega)
              have hk1 := dec1_pos hd1
              have hk2 := dec1_le hpos hd1
              skip
              rw [List.drop_drop] at hp62
              have hd2 := decA_some hpos hd1
              rw [List.drop_drop (i := 9)] at hd2
              exact AQ.again (x := (p, vb, vo, av, Lo, I5)) (p + _, _, _, av ++ [.num (num64 (((b.drop p).drop 1).take 8))], _, _) ⟨hle, hst, hp62, GrowV.push (by assumption), by rw [hd, hd2, Option.map_map, app_one] <;> rfl, by omega, by rw [List.length_append]; simp only [List.length_cons, List.length_nil]; omega⟩ ⟨rfl, rfl, trivial⟩ (by dsimp only; omega)
          · have hcb32 := hc32
            try simp only [decide_eq_true_eq, decide_eq_false_iff_not] at hc32
            refine CW.seq ?_
            -- region 14
            refine CW.region ?_
            refine RW.op1 rfl (runs_move rfl) ?_
            first
              | refine RW.op1 rfl (RdL.indexAddr Try.underlying26 ti5 (by decide) rfl rfl (by assumption) (by omega)) ?_
              | refine RW.op1 rfl (runs_indexAddr0 Try.underlying26 ti5 rfl rfl (by omega)) ?_
            first
              | refine RW.op1 rfl (runs_load1 sc5 rfl (hst.cell_imm (RdB.at (by assumption) (by omega) (by omega)))) ?_
              | refine RW.op1 rfl (runs_load1 sc5 rfl (hst.cell_own (k := 0) rfl rfl)) ?_
              | refine RW.op1 rfl (runs_load1 sc5 rfl (hst.cell_own (k := 1) rfl rfl)) ?_
              | refine RW.op1 rfl (runs_load1 sc5 rfl (hst.cell_own (k := 2) rfl rfl)) ?_
            refine RW.op1 rfl (runs_eqI rfl rfl) ?_
            refine RW.op1 rfl (runs_move rfl) ?_
            refine RW.split (t := 68) rfl (fun hb68 => ?_) (fun hb68 => ?_)
            · have hb68p := hb68
              try simp only [decide_eq_true_eq, decide_eq_false_iff_not] at hb68p
              refine RW.on_guard rfl rfl rfl rfl hb68 ?_
              refine RW.op1 rfl (runs_move rfl) ?_
              refine RW.on_guard rfl rfl rfl rfl hb68 ?_
              first
                | refine RW.op1 rfl (RdL.len Try.underlying26 rfl (by assumption)) ?_
                | refine RW.op1 rfl (runs_lenL Try.underlying26 rfl) ?_
                | refine RW.op1 rfl (Grow.len Try.underlying26 rfl (by assumption)) ?_
              refine RW.on_guard rfl rfl rfl rfl hb68 ?_
              refine RW.op1 rfl (runs_geq rfl rfl) ?_
              refine RW.op1 rfl (runs_pick_true rfl hb68 rfl) ?_
              refine RW.op1 rfl (runs_move rfl) ?_
              refine RW.split (t := 73) rfl (fun hb73 => ?_) (fun hb73 => ?_)
              · have hb73p := hb73
                try simp only [decide_eq_true_eq, decide_eq_false_iff_not] at hb73p
                refine RW.on_guard rfl rfl rfl rfl hb73 ?_
                refine RW.op1 rfl (runs_move rfl) ?_
                refine RW.on_guard rfl rfl rfl rfl hb73 ?_
                first
                  | refine RW.op1 rfl (RdL.len Try.underlying26 rfl (by assumption)) ?_
                  | refine RW.op1 rfl (runs_lenL Try.underlying26 rfl) ?_
                  | refine RW.op1 rfl (Grow.len Try.underlying26 rfl (by assumption)) ?_
                refine RW.on_guard rfl rfl rfl rfl hb73 ?_
                refine RW.op1 rfl (runs_move rfl) ?_
                refine RW.on_guard rfl rfl rfl rfl hb73 ?_
                first
                  | refine RW.op1 rfl (RdL.indexAddr Try.underlying26 ti5 (by decide) rfl rfl (by assumption) (by omega)) ?_
                  | refine RW.op1 rfl (runs_indexAddr0 Try.underlying26 ti5 rfl rfl (by omega)) ?_
                refine RW.on_guard rfl rfl rfl rfl hb73 ?_
                first
                  | refine RW.op1 rfl (runs_load1 sc5 rfl (hst.cell_imm (RdB.at (by assumption) (by omega) (by omega)))) ?_
                  | refine RW.op1 rfl (runs_load1 sc5 rfl (hst.cell_own (k := 0) rfl rfl)) ?_
                  | refine RW.op1 rfl (runs_load1 sc5 rfl (hst.cell_own (k := 1) rfl rfl)) ?_
                  | refine RW.op1 rfl (runs_load1 sc5 rfl (hst.cell_own (k := 2) rfl rfl)) ?_
                refine RW.on_guard rfl rfl rfl rfl hb73 ?_
                refine RW.op1 rfl (runs_conv64 (by rw [Try.underlying5]; rfl) Try.underlying3 rfl (bat_ok _ _)) ?_
                refine RW.on_guard rfl rfl rfl rfl hb73 ?_
                refine RW.op1 rfl (runs_add rfl rfl (by omega)) ?_
                refine RW.on_guard rfl rfl rfl rfl hb73 ?_
                refine RW.op1 rfl (runs_geq rfl rfl) ?_
                refine RW.op1 rfl (runs_pick_true rfl hb73 rfl) ?_
                refine RW.op1 rfl (runs_assign rfl) ?_
                refine RW.done ?_
                refine AQ.next ?_
                refine CW.cond rfl (fun hc63 => ?_) (fun hc63 => ?_)
                · have hcb63 := hc63
                  try simp only [decide_eq_true_eq, decide_eq_false_iff_not] at hc63
                  -- region 15
                  refine CW.draw (FSt w0 I5 L) (.q 0 (.q 1 (.q 2 (.q 3 (.q 4 (.q 5 (.q 6 (.q 7 (.q 8 (.q 12 (.q 13 (.q 14 (.q 15 (.q 16 (.q 17 (.q 18 (.l 9 (.l 10 (.l 11 (.q 19 (.q 20 .nil))))))))))))))))))))) follows (by kernel_rfl) ⟨_, Imm.le.refl _, hst.draw.sub (List.sublist_append_right _ _)⟩ ?_
                  replace hst := hst.draw
                  refine DRW.q rfl rfl (fun w' hF => runs_move rfl) ?_
                  refine DRW.q rfl rfl (fun w' hF => runs_move rfl) ?_
                  refine DRW.q rfl rfl (fun w' hF => runs_move rfl) ?_
                  first
                    | refine DRW.q rfl rfl (fun w' hF => RdL.indexAddr Try.underlying26 ti5 (by decide) rfl rfl (by assumption) (by omega)) ?_
                    | refine DRW.q rfl rfl (fun w' hF => runs_indexAddr0 Try.underlying26 ti5 rfl rfl (by omega)) ?_
                  first
                    | refine DRW.q rfl rfl (FSt.load1 sc5 rfl (RdB.at (by assumption) (by omega) (by omega))) ?_
                    | refine DRW.q rfl rfl (FSt.load1_own sc5 rfl (k := 0) rfl rfl) ?_
                    | refine DRW.q rfl rfl (FSt.load1_own sc5 rfl (k := 1) rfl rfl) ?_
                    | refine DRW.q rfl rfl (FSt.load1_own sc5 rfl (k := 2) rfl rfl) ?_
                  refine DRW.q rfl rfl (fun w' hF => runs_conv64 (by rw [Try.underlying5]; rfl) Try.underlying3 rfl (bat_ok _ _)) ?_
                  refine DRW.q rfl rfl (fun w' hF => runs_add rfl rfl (by omega)) ?_
                  have hp90 : RdB I5 (partV vb (2 : Int).toNat (2 + bat (b.drop p) 1).toNat 1) (((b.drop p).drop 2).take (bat (b.drop p) 1).toNat) := by
                    have h9 := RdB.part hb (lo := (2 : Int).toNat) (hi := (2 + bat (b.drop p) 1).toNat) (by omega) (by omega)
                    rw [show (2 + bat (b.drop p) 1).toNat - (2 : Int).toNat = (bat (b.drop p) 1).toNat by omega] at h9
                    exact h9
                  refine DRW.q rfl rfl (fun w' hF => RdL.slice_lh Try.underlying26 ti5 rfl rfl rfl hb (by omega)) ?_
                  refine DRW.q rfl rfl (FSt.string Try.underlying26 Try.underlying5 Try.underlying9 rfl hp90) ?_
                  refine DRW.q rfl rfl (fun w' hF => runs_move rfl) ?_
                  refine DRW.q rfl rfl (fun w' hF => runs_move rfl) ?_
                  first
                    | refine DRW.q rfl rfl (fun w' hF => RdL.indexAddr Try.underlying26 ti5 (by decide) rfl rfl (by assumption) (by omega)) ?_
                    | refine DRW.q rfl rfl (fun w' hF => runs_indexAddr0 Try.underlying26 ti5 rfl rfl (by omega)) ?_
                  first
                    | refine DRW.q rfl rfl (FSt.load1 sc5 rfl (RdB.at (by assumption) (by omega) (by omega))) ?_
                    | refine DRW.q rfl rfl (FSt.load1_own sc5 rfl (k := 0) rfl rfl) ?_
                    | refine DRW.q rfl rfl (FSt.load1_own sc5 rfl (k := 1) rfl rfl) ?_
                    | refine DRW.q rfl rfl (FSt.load1_own sc5 rfl (k := 2) rfl rfl) ?_
                  refine DRW.q rfl rfl (fun w' hF => runs_conv64 (by rw [Try.underlying5]; rfl) Try.underlying3 rfl (bat_ok _ _)) ?_
                  refine DRW.q rfl rfl (fun w' hF => runs_add rfl rfl (by omega)) ?_
                  have hp101 := RdB.part hb (lo := (2 + bat (b.drop p) 1 : Int).toNat) (hi := (b.drop p).length) (by omega) (by omega)
                  rw [List.take_of_length_le (by rw [List.length_drop]; omega)] at hp101
                  refine DRW.q rfl rfl (fun w' hF => RdL.slice_l Try.underlying26 ti5 rfl rfl hb (by omega)) ?_
                  refine DRW.call rfl rfl call29 rfl rfl (refS_spec hst (strOf (((b.drop p).drop 2).take (bat (b.drop p) 1).toNat))) ?_
                  rintro e w ⟨rfl, hstn⟩
                  clear hst
                  have hst := hstn
                  clear hstn
                  refine ⟨_, rfl, FSt.of hst (Imm.le.refl _) (by first | exact List.sublist_append_right _ _ | exact (List.sublist_append_right _ _).trans (List.sublist_append_right _ _)), ?_⟩
                  refine DRW.opE rfl rfl (runs_litF (xs := [.agg #[_, _, _, _]]) Try.underlying50 ti55 (by decide) rfl rfl rfl rfl rfl hst (by decide)) ?_
                  rintro u11 w ⟨Lv11, hstn, hg11⟩
                  clear hst
                  have hst := hstn
                  clear hstn
                  refine ⟨FSt.of hst (Imm.le.refl _) (by first | exact List.sublist_append_right _ _ | exact (List.sublist_append_right _ _).trans (List.sublist_append_right _ _)), ?_⟩
                  obtain ⟨J11, hJ11, hstn, h11⟩ := Grow.freeze hg11 hst
                  clear hst
                  have hst := hstn
                  clear hstn
                  replace hb := hb.mono hJ11
                  replace hp101 := hp101.mono hJ11
                  replace hle := hle.trans hJ11
                  try simp only [List.nil_append] at h11
                  replace h11 : RdL _ 4 u11 1 (refRow (.txt (strOf (((b.drop p).drop 2).take (bat (b.drop p) 1).toNat)))) := h11
                  have hR93 := h11
                  refine DRW.opE rfl rfl (runs_appendR Try.underlying50 ti55 rfl (by decide) rfl rfl hst hg hR93 (by omega) (by unfold maxLen; omega)) ?_
                  rintro u12 w ⟨Lv12, hstn, hg12⟩
                  clear hst
                  have hst := hstn
                  clear hstn
                  refine ⟨FSt.of hst hJ11 (by first | exact List.sublist_append_right _ _ | exact (List.sublist_append_right _ _).trans (List.sublist_append_right _ _)), ?_⟩
                  refine DRW.q rfl rfl (fun w' hF => runs_assign rfl) ?_
                  refine DRW.q rfl rfl (fun w' hF => runs_assign rfl) ?_
                  refine DRW.done ?_
                  refine AQ.block_normal ?_
                  refine AQ.block_normal ?_
                  have hd1 : dec1 (b.drop p) = some (.txt (strOf (((b.drop p).drop 2).take (bat (b.drop p) 1).toNat)), _) := dec1_txt (by omega) (by omega) (by omega)
                  have hk1 := dec1_pos hd1
                  have hk2 := dec1_le hpos hd1
                  have e87 : (2 + bat (b.drop p) 1).toNat = 2 + (bat (b.drop p) 1).toNat := by omega
                  rw [e87] at hp101
                  rw [List.drop_drop] at hp101
                  have hd2 := decA_some hpos hd1
                  rw [List.drop_drop (i := 2 + (bat (b.drop p) 1).toNat)] at hd2
                  exact AQ.again (x := (p, vb, vo, av, Lo, I5)) (p + _, _, _, av ++ [.txt (strOf (((b.drop p).drop 2).take (bat (b.drop p) 1).toNat))], _, _) ⟨hle, hst, hp101, GrowV.push (by assumption), by rw [hd, hd2, Option.map_map, app_one] <;> rfl, by omega, by rw [List.length_append]; simp only [List.length_cons, List.length_nil]; omega⟩ ⟨rfl, rfl, trivial⟩ (by dsimp only; omega)
                · have hcb63 := hc63
                  try simp only [decide_eq_true_eq, decide_eq_false_iff_not] at hc63
                  refine CW.seq ?_
                  -- region 3
                  refine CW.region ?_
                  refine RW.op1 rfl (runs_assign rfl) ?_
                  refine RW.op1 rfl (runs_assign rfl) ?_
                  refine RW.done ?_
                  refine AQ.next ?_
                  refine CW.ret ?_
                  refine AQ.block_ret ?_
                  refine AQ.block_ret ?_
                  refine AQ.past_ret ?_
                  refine AQ.block_ret ?_
                  refine AQ.past_ret ?_
                  refine AQ.ret2 rfl rfl rfl ?_
                  rw [hd, decA_none hpos (dec1_no (by omega) (by omega) (by omega))]
                  exact ⟨_, _, hle, rfl, hst.sub (List.sublist_append_right _ _), RdL.nil 4⟩
              · have hb73p := hb73
                try simp only [decide_eq_true_eq, decide_eq_false_iff_not] at hb73p
                refine RW.off_guard rfl rfl rfl rfl hb73 ?_
                refine RW.off_guard rfl rfl rfl rfl hb73 ?_
                refine RW.off_guard rfl rfl rfl rfl hb73 ?_
                refine RW.off_guard rfl rfl rfl rfl hb73 ?_
                refine RW.off_guard rfl rfl rfl rfl hb73 ?_
                refine RW.off_guard rfl rfl rfl rfl hb73 ?_
                refine RW.off_guard rfl rfl rfl rfl hb73 ?_
                refine RW.off_guard rfl rfl rfl rfl hb73 ?_
                refine RW.op1 rfl (runs_pick_false rfl hb73 rfl) ?_
                refine RW.op1 rfl (runs_assign rfl) ?_
                refine RW.done ?_
                refine AQ.next ?_
                refine CW.cond_false rfl ?_
                refine CW.seq ?_
                -- region 3
                refine CW.region ?_
                refine RW.op1 rfl (runs_assign rfl) ?_
                refine RW.op1 rfl (runs_assign rfl) ?_
                refine RW.done ?_
                refine AQ.next ?_
                refine CW.ret ?_
                refine AQ.block_ret ?_
                refine AQ.block_ret ?_
                refine AQ.past_ret ?_
                refine AQ.block_ret ?_
                refine AQ.past_ret ?_
                refine AQ.ret2 rfl rfl rfl ?_
                rw [hd, decA_none hpos (dec1_no (by omega) (by omega) (by omega))]
                exact ⟨_, _, hle, rfl, hst.sub (List.sublist_append_right _ _), RdL.nil 4⟩
            · have hb68p := hb68
              try simp only [decide_eq_true_eq, decide_eq_false_iff_not] at hb68p
              refine RW.off_guard rfl rfl rfl rfl hb68 ?_
              refine RW.off_guard rfl rfl rfl rfl hb68 ?_
              refine RW.off_guard rfl rfl rfl rfl hb68 ?_
              refine RW.op1 rfl (runs_pick_false rfl hb68 rfl) ?_
              refine RW.op1 rfl (runs_move rfl) ?_
              refine RW.off_guard rfl rfl rfl rfl rfl ?_
              refine RW.off_guard rfl rfl rfl rfl rfl ?_
              refine RW.off_guard rfl rfl rfl rfl rfl ?_
              refine RW.off_guard rfl rfl rfl rfl rfl ?_
              refine RW.off_guard rfl rfl rfl rfl rfl ?_
              refine RW.off_guard rfl rfl rfl rfl rfl ?_
              refine RW.off_guard rfl rfl rfl rfl rfl ?_
              refine RW.off_guard rfl rfl rfl rfl rfl ?_
              refine RW.op1 rfl (runs_pick_false rfl rfl rfl) ?_
              refine RW.op1 rfl (runs_assign rfl) ?_
              refine RW.done ?_
              refine AQ.next ?_
              refine CW.cond_false rfl ?_
              refine CW.seq ?_
              -- region 3
              refine CW.region ?_
              refine RW.op1 rfl (runs_assign rfl) ?_
              refine RW.op1 rfl (runs_assign rfl) ?_
              refine RW.done ?_
              refine AQ.next ?_
              refine CW.ret ?_
              refine AQ.block_ret ?_
              refine AQ.block_ret ?_
              refine AQ.past_ret ?_
              refine AQ.block_ret ?_
              refine AQ.past_ret ?_
              refine AQ.ret2 rfl rfl rfl ?_
              rw [hd, decA_none hpos (dec1_no (by omega) (by omega) (by omega))]
              exact ⟨_, _, hle, rfl, hst.sub (List.sublist_append_right _ _), RdL.nil 4⟩
        · have hb37p := hb37
          try simp only [decide_eq_true_eq, decide_eq_false_iff_not] at hb37p
          refine RW.off_guard rfl rfl rfl rfl hb37 ?_
          refine RW.off_guard rfl rfl rfl rfl hb37 ?_
          refine RW.off_guard rfl rfl rfl rfl hb37 ?_
          refine RW.op1 rfl (runs_pick_false rfl hb37 rfl) ?_
          refine RW.op1 rfl (runs_assign rfl) ?_
          refine RW.done ?_
          refine AQ.next ?_
          refine CW.cond_false rfl ?_
          refine CW.seq ?_
          -- region 14
          refine CW.region ?_
          refine RW.op1 rfl (runs_move rfl) ?_
          first
            | refine RW.op1 rfl (RdL.indexAddr Try.underlying26 ti5 (by decide) rfl rfl (by assumption) (by omega)) ?_
            | refine RW.op1 rfl (runs_indexAddr0 Try.underlying26 ti5 rfl rfl (by omega)) ?_
          first
            | refine RW.op1 rfl (runs_load1 sc5 rfl (hst.cell_imm (RdB.at (by assumption) (by omega) (by omega)))) ?_
            | refine RW.op1 rfl (runs_load1 sc5 rfl (hst.cell_own (k := 0) rfl rfl)) ?_
            | refine RW.op1 rfl (runs_load1 sc5 rfl (hst.cell_own (k := 1) rfl rfl)) ?_
            | refine RW.op1 rfl (runs_load1 sc5 rfl (hst.cell_own (k := 2) rfl rfl)) ?_
          refine RW.op1 rfl (runs_eqI rfl rfl) ?_
          refine RW.op1 rfl (runs_move rfl) ?_
          refine RW.split (t := 68) rfl (fun hb68 => ?_) (fun hb68 => ?_)
          · have hb68p := hb68
            try simp only [decide_eq_true_eq, decide_eq_false_iff_not] at hb68p
            refine RW.on_guard rfl rfl rfl rfl hb68 ?_
            refine RW.op1 rfl (runs_move rfl) ?_
            refine RW.on_guard rfl rfl rfl rfl hb68 ?_
            first
              | refine RW.op1 rfl (RdL.len Try.underlying26 rfl (by assumption)) ?_
              | refine RW.op1 rfl (runs_lenL Try.underlying26 rfl) ?_
              | refine RW.op1 rfl (Grow.len Try.underlying26 rfl (by assumption)) ?_
            refine RW.on_guard rfl rfl rfl rfl hb68 ?_
            refine RW.op1 rfl (runs_geq rfl rfl) ?_
            refine RW.op1 rfl (runs_pick_true rfl hb68 rfl) ?_
            refine RW.op1 rfl (runs_move rfl) ?_
            refine RW.split (t := 73) rfl (fun hb73 => ?_) (fun hb73 => ?_)
            · have hb73p := hb73
              try simp only [decide_eq_true_eq, decide_eq_false_iff_not] at hb73p
              refine RW.on_guard rfl rfl rfl rfl hb73 ?_
              refine RW.op1 rfl (runs_move rfl) ?_
              refine RW.on_guard rfl rfl rfl rfl hb73 ?_
              first
                | refine RW.op1 rfl (RdL.len Try.underlying26 rfl (by assumption)) ?_
                | refine RW.op1 rfl (runs_lenL Try.underlying26 rfl) ?_
                | refine RW.op1 rfl (Grow.len Try.underlying26 rfl (by assumption)) ?_
              refine RW.on_guard rfl rfl rfl rfl hb73 ?_
              refine RW.op1 rfl (runs_move rfl) ?_
              refine RW.on_guard rfl rfl rfl rfl hb73 ?_
              first
                | refine RW.op1 rfl (RdL.indexAddr Try.underlying26 ti5 (by decide) rfl rfl (by assumption) (by omega)) ?_
                | refine RW.op1 rfl (runs_indexAddr0 Try.underlying26 ti5 rfl rfl (by omega)) ?_
              refine RW.on_guard rfl rfl rfl rfl hb73 ?_
              first
                | refine RW.op1 rfl (runs_load1 sc5 rfl (hst.cell_imm (RdB.at (by assumption) (by omega) (by omega)))) ?_
                | refine RW.op1 rfl (runs_load1 sc5 rfl (hst.cell_own (k := 0) rfl rfl)) ?_
                | refine RW.op1 rfl (runs_load1 sc5 rfl (hst.cell_own (k := 1) rfl rfl)) ?_
                | refine RW.op1 rfl (runs_load1 sc5 rfl (hst.cell_own (k := 2) rfl rfl)) ?_
              refine RW.on_guard rfl rfl rfl rfl hb73 ?_
              refine RW.op1 rfl (runs_conv64 (by rw [Try.underlying5]; rfl) Try.underlying3 rfl (bat_ok _ _)) ?_
              refine RW.on_guard rfl rfl rfl rfl hb73 ?_
              refine RW.op1 rfl (runs_add rfl rfl (by omega)) ?_
              refine RW.on_guard rfl rfl rfl rfl hb73 ?_
              refine RW.op1 rfl (runs_geq rfl rfl) ?_
              refine RW.op1 rfl (runs_pick_true rfl hb73 rfl) ?_
              refine RW.op1 rfl (runs_assign rfl) ?_
              refine RW.done ?_
              refine AQ.next ?_
              refine CW.cond rfl (fun hc63 => ?_) (fun hc63 => ?_)
              · have hcb63 := hc63
                try simp only [decide_eq_true_eq, decide_eq_false_iff_not] at hc63
                -- region 15
                refine CW.draw (FSt w0 I5 L) (.q 0 (.q 1 (.q 2 (.q 3 (.q 4 (.q 5 (.q 6 (.q 7 (.q 8 (.q 12 (.q 13 (.q 14 (.q 15 (.q 16 (.q 17 (.q 18 (.l 9 (.l 10 (.l 11 (.q 19 (.q 20 .nil))))))))))))))))))))) follows (by kernel_rfl) ⟨_, Imm.le.refl _, hst.draw.sub (List.sublist_append_right _ _)⟩ ?_
                replace hst := hst.draw
                refine DRW.q rfl rfl (fun w' hF => runs_move rfl) ?_
                refine DRW.q rfl rfl (fun w' hF => runs_move rfl) ?_
                refine DRW.q rfl rfl (fun w' hF => runs_move rfl) ?_
                first
                  | refine DRW.q rfl rfl (fun w' hF => RdL.indexAddr Try.underlying26 ti5 (by decide) rfl rfl (by assumption) (by omega)) ?_
                  | refine DRW.q rfl rfl (fun w' hF => runs_indexAddr0 Try.underlying26 ti5 rfl rfl (by omega)) ?_
                first
                  | refine DRW.q rfl rfl (FSt.load1 sc5 rfl (RdB.at (by assumption) (by omega) (by omega))) ?_
                  | refine DRW.q rfl rfl (FSt.load1_own sc5 rfl (k := 0) rfl rfl) ?_
                  | refine DRW.q rfl rfl (FSt.load1_own sc5 rfl (k := 1) rfl rfl) ?_
                  | refine DRW.q rfl rfl (FSt.load1_own sc5 rfl (k := 2) rfl rfl) ?_
                refine DRW.q rfl rfl (fun w' hF => runs_conv64 (by rw [Try.underlying5]; rfl) Try.underlying3 rfl (bat_ok _ _)) ?_
                refine DRW.q rfl rfl (fun w' hF => runs_add rfl rfl (by omega)) ?_
                have hp90 : RdB I5 (partV vb (2 : Int).toNat (2 + bat (b.drop p) 1).toNat 1) (((b.drop p).drop 2).take (bat (b.drop p) 1).toNat) := by
                  have h9 := RdB.part hb (lo := (2 : Int).toNat) (hi := (2 + bat (b.drop p) 1).toNat) (by omega) (by omega)
                  rw [show (2 + bat (b.drop p) 1).toNat - (2 : Int).toNat = (bat (b.drop p) 1).toNat by omega] at h9
                  exact h9
                refine DRW.q rfl rfl (fun w' hF => RdL.slice_lh Try.underlying26 ti5 rfl rfl rfl hb (by omega)) ?_
                refine DRW.q rfl rfl (FSt.string Try.underlying26 Try.underlying5 Try.underlying9 rfl hp90) ?_
                refine DRW.q rfl rfl (fun w' hF => runs_move rfl) ?_
                refine DRW.q rfl rfl (fun w' hF => runs_move rfl) ?_
                first
                  | refine DRW.q rfl rfl (fun w' hF => RdL.indexAddr Try.underlying26 ti5 (by decide) rfl rfl (by assumption) (by omega)) ?_
                  | refine DRW.q rfl rfl (fun w' hF => runs_indexAddr0 Try.underlying26 ti5 rfl rfl (by omega)) ?_
                first
                  | refine DRW.q rfl rfl (FSt.load1 sc5 rfl (RdB.at (by assumption) (by omega) (by omega))) ?_
                  | refine DRW.q rfl rfl (FSt.load1_own sc5 rfl (k := 0) rfl rfl) ?_
                  | refine DRW.q rfl rfl (FSt.load1_own sc5 rfl (k := 1) rfl rfl) ?_
                  | refine DRW.q rfl rfl (FSt.load1_own sc5 rfl (k := 2) rfl rfl) ?_
                refine DRW.q rfl rfl (fun w' hF => runs_conv64 (by rw [Try.underlying5]; rfl) Try.underlying3 rfl (bat_ok _ _)) ?_
                refine DRW.q rfl rfl (fun w' hF => runs_add rfl rfl (by omega)) ?_
                have hp101 := RdB.part hb (lo := (2 + bat (b.drop p) 1 : Int).toNat) (hi := (b.drop p).length) (by omega) (by omega)
                rw [List.take_of_length_le (by rw [List.length_drop]; omega)] at hp101
                refine DRW.q rfl rfl (fun w' hF => RdL.slice_l Try.underlying26 ti5 rfl rfl hb (by omega)) ?_
                refine DRW.call rfl rfl call29 rfl rfl (refS_spec hst (strOf (((b.drop p).drop 2).take (bat (b.drop p) 1).toNat))) ?_
                rintro e w ⟨rfl, hstn⟩
                clear hst
                have hst := hstn
                clear hstn
                refine ⟨_, rfl, FSt.of hst (Imm.le.refl _) (by first | exact List.sublist_append_right _ _ | exact (List.sublist_append_right _ _).trans (List.sublist_append_right _ _)), ?_⟩
                refine DRW.opE rfl rfl (runs_litF (xs := [.agg #[_, _, _, _]]) Try.underlying50 ti55 (by decide) rfl rfl rfl rfl rfl hst (by decide)) ?_
                rintro u14 w ⟨Lv14, hstn, hg14⟩
                clear hst
                have hst := hstn
                clear hstn
                refine ⟨FSt.of hst (Imm.le.refl _) (by first | exact List.sublist_append_right _ _ | exact (List.sublist_append_right _ _).trans (List.sublist_append_right _ _)), ?_⟩
                obtain ⟨J14, hJ14, hstn, h14⟩ := Grow.freeze hg14 hst
                clear hst
                have hst := hstn
                clear hstn
                replace hb := hb.mono hJ14
                replace hp101 := hp101.mono hJ14
                replace hle := hle.trans hJ14
                try simp only [List.nil_append] at h14
                replace h14 : RdL _ 4 u14 1 (refRow (.txt (strOf (((b.drop p).drop 2).take (bat (b.drop p) 1).toNat)))) := h14
                have hR93 := h14
                refine DRW.opE rfl rfl (runs_appendR Try.underlying50 ti55 rfl (by decide) rfl rfl hst hg hR93 (by omega) (by unfold maxLen; omega)) ?_
                rintro u15 w ⟨Lv15, hstn, hg15⟩
                clear hst
                have hst := hstn
                clear hstn
                refine ⟨FSt.of hst hJ14 (by first | exact List.sublist_append_right _ _ | exact (List.sublist_append_right _ _).trans (List.sublist_append_right _ _)), ?_⟩
                refine DRW.q rfl rfl (fun w' hF => runs_assign rfl) ?_
                refine DRW.q rfl rfl (fun w' hF => runs_assign rfl) ?_
                refine DRW.done ?_
                refine AQ.block_normal ?_
                refine AQ.block_normal ?_
                have hd1 : dec1 (b.drop p) = some (.txt (strOf (((b.drop p).drop 2).take (bat (b.drop p) 1).toNat)), _) := dec1_txt (by omega) (by omega) (by omega)
                have hk1 := dec1_pos hd1
                have hk2 := dec1_le hpos hd1
                have e87 : (2 + bat (b.drop p) 1).toNat = 2 + (bat (b.drop p) 1).toNat := by omega
                rw [e87] at hp101
                rw [List.drop_drop] at hp101
                have hd2 := decA_some hpos hd1
                rw [List.drop_drop (i := 2 + (bat (b.drop p) 1).toNat)] at hd2
                exact AQ.again (x := (p, vb, vo, av, Lo, I5)) (p + _, _, _, av ++ [.txt (strOf (((b.drop p).drop 2).take (bat (b.drop p) 1).toNat))], _, _) ⟨hle, hst, hp101, GrowV.push (by assumption), by rw [hd, hd2, Option.map_map, app_one] <;> rfl, by omega, by rw [List.length_append]; simp only [List.length_cons, List.length_nil]; omega⟩ ⟨rfl, rfl, trivial⟩ (by dsimp only; omega)
              · have hcb63 := hc63
                try simp only [decide_eq_true_eq, decide_eq_false_iff_not] at hc63
                refine CW.seq ?_
                -- region 3
                refine CW.region ?_
                refine RW.op1 rfl (runs_assign rfl) ?_
                refine RW.op1 rfl (runs_assign rfl) ?_
                refine RW.done ?_
                refine AQ.next ?_
                refine CW.ret ?_
                refine AQ.block_ret ?_
                refine AQ.block_ret ?_
                refine AQ.past_ret ?_
                refine AQ.block_ret ?_
                refine AQ.past_ret ?_
                refine AQ.ret2 rfl rfl rfl ?_
                rw [hd, decA_none hpos (dec1_no (by omega) (by omega) (by omega))]
                exact ⟨_, _, hle, rfl, hst.sub (List.sublist_append_right _ _), RdL.nil 4⟩
            · have hb73p := hb73
              try simp only [decide_eq_true_eq, decide_eq_false_iff_not] at hb73p
              refine RW.off_guard rfl rfl rfl rfl hb73 ?_
              refine RW.off_guard rfl rfl rfl rfl hb73 ?_
              refine RW.off_guard rfl rfl rfl rfl hb73 ?_
              refine RW.off_guard rfl rfl rfl rfl hb73 ?_
              refine RW.off_guard rfl rfl rfl rfl hb73 ?_
              refine RW.off_guard rfl rfl rfl rfl hb73 ?_
              refine RW.off_guard rfl rfl rfl rfl hb73 ?_
              refine RW.off_guard rfl rfl rfl rfl hb73 ?_
              refine RW.op1 rfl (runs_pick_false rfl hb73 rfl) ?_
              refine RW.op1 rfl (runs_assign rfl) ?_
              refine RW.done ?_
              refine AQ.next ?_
              refine CW.cond_false rfl ?_
              refine CW.seq ?_
              -- region 3
              refine CW.region ?_
              refine RW.op1 rfl (runs_assign rfl) ?_
              refine RW.op1 rfl (runs_assign rfl) ?_
              refine RW.done ?_
              refine AQ.next ?_
              refine CW.ret ?_
              refine AQ.block_ret ?_
              refine AQ.block_ret ?_
              refine AQ.past_ret ?_
              refine AQ.block_ret ?_
              refine AQ.past_ret ?_
              refine AQ.ret2 rfl rfl rfl ?_
              rw [hd, decA_none hpos (dec1_no (by omega) (by omega) (by omega))]
              exact ⟨_, _, hle, rfl, hst.sub (List.sublist_append_right _ _), RdL.nil 4⟩
          · have hb68p := hb68
            try simp only [decide_eq_true_eq, decide_eq_false_iff_not] at hb68p
            refine RW.off_guard rfl rfl rfl rfl hb68 ?_
            refine RW.off_guard rfl rfl rfl rfl hb68 ?_
            refine RW.off_guard rfl rfl rfl rfl hb68 ?_
            refine RW.op1 rfl (runs_pick_false rfl hb68 rfl) ?_
            refine RW.op1 rfl (runs_move rfl) ?_
            refine RW.off_guard rfl rfl rfl rfl rfl ?_
            refine RW.off_guard rfl rfl rfl rfl rfl ?_
            refine RW.off_guard rfl rfl rfl rfl rfl ?_
            refine RW.off_guard rfl rfl rfl rfl rfl ?_
            refine RW.off_guard rfl rfl rfl rfl rfl ?_
            refine RW.off_guard rfl rfl rfl rfl rfl ?_
            refine RW.off_guard rfl rfl rfl rfl rfl ?_
            refine RW.off_guard rfl rfl rfl rfl rfl ?_
            refine RW.op1 rfl (runs_pick_false rfl rfl rfl) ?_
            refine RW.op1 rfl (runs_assign rfl) ?_
            refine RW.done ?_
            refine AQ.next ?_
            refine CW.cond_false rfl ?_
            refine CW.seq ?_
            -- region 3
            refine CW.region ?_
            refine RW.op1 rfl (runs_assign rfl) ?_
            refine RW.op1 rfl (runs_assign rfl) ?_
            refine RW.done ?_
            refine AQ.next ?_
            refine CW.ret ?_
            refine AQ.block_ret ?_
            refine AQ.block_ret ?_
            refine AQ.past_ret ?_
            refine AQ.block_ret ?_
            refine AQ.past_ret ?_
            refine AQ.ret2 rfl rfl rfl ?_
            rw [hd, decA_none hpos (dec1_no (by omega) (by omega) (by omega))]
            exact ⟨_, _, hle, rfl, hst.sub (List.sublist_append_right _ _), RdL.nil 4⟩
  · have hcb10 := hc10
    try simp only [decide_eq_true_eq, decide_eq_false_iff_not] at hc10
    skip
    refine CW.exit ?_
    refine AQ.past_exit ?_
    refine AQ.past_exit ?_
    refine AQ.block_hit ?_
    refine AQ.next ?_
    refine CW.seq ?_
    -- region 16
    refine CW.region ?_
    refine RW.op1 rfl (runs_move rfl) ?_
    refine RW.op1 rfl (runs_assign rfl) ?_
    refine RW.op1 rfl (runs_assign rfl) ?_
    refine RW.done ?_
    refine AQ.next ?_
    refine CW.ret ?_
    refine AQ.ret2 rfl rfl rfl ?_
    have he : b.drop p = [] := List.eq_nil_of_length_eq_zero (by omega)
    rw [he, decA_nil] at hd
    rw [hd]
    obtain ⟨I', hI, hst, hr⟩ := Grow.freeze hg hst
    exact ⟨I', _, hle.trans hI, rfl, hst, by simpa using hr⟩
end Go.Proofs.YtoegloebnnjflaaX
