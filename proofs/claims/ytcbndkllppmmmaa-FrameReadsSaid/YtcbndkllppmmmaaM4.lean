/- What the document's sealing, and both openings, come to; bytes of a number. -/
import Derived.Test.YtcbndkllppmmmaaT
import Derived.Test.YtcbndkllppmmmaaM2
import Derived.Test.YtcbndkllppmmmaaM3
namespace Go.Proofs.YtcbndkllppmmmaaX
set_option linter.unusedVariables false
set_option linter.unusedSimpArgs false
open Go Go.RowKit Go.Proofs

attribute [local simp] two_length three_length
set_option maxRecDepth 100000 in
set_option maxHeartbeats 1000000 in
theorem refSeal_spec {w0 w : World} {I : Imm} {L : Own} (hst : St w0 w I L) (e s p n : Int) {v : Value} {b : List UInt8} (hv : RdB I v b) (hb : b.length ≤ 9223372036854775807) :
    Calls Try.prog 25 #[.int .i64 e, .int .i64 s, .int .i64 p, .int .i64 n, v] w fun r w' => ∃ I' v', Imm.le I I' ∧ r = .returned (.tuple #[v', .bool (sealM e s p n b)]) ∧ St w0 w' I' L ∧ RdB I' v' (if sealM e s p n b then sealB e s p n b else []) := by
  refine enter Try.func25 rfl (N := 75) rfl rfl ?_
  simp only [List.zipIdx_cons, List.zipIdx_nil, List.map_cons, List.map_nil, Nat.zero_add, Nat.reduceAdd]
  have hle := Imm.le.refl I
  refine CW.seq ?_
  -- region 0
  refine CW.region ?_
  refine RW.op1 rfl (runs_assign rfl) ?_
  refine RW.op1 rfl (runs_assign rfl) ?_
  refine RW.done ?_
  refine AQ.next ?_
  refine CW.seq ?_
  refine CW.seq ?_
  -- region 1
  refine CW.region ?_
  refine RW.op1 rfl (runs_move rfl) ?_
  refine RW.op1 rfl (runs_lss rfl rfl) ?_
  refine RW.op1 rfl (runs_move rfl) ?_
  refine RW.split (t := 15) rfl (fun hb15 => ?_) (fun hb15 => ?_)
  · have hb15p := hb15
    try simp only [decide_eq_true_eq, decide_eq_false_iff_not] at hb15p
    refine RW.off_guard rfl rfl rfl rfl hb15 ?_
    refine RW.off_guard rfl rfl rfl rfl hb15 ?_
    refine RW.op1 rfl (runs_pick_true rfl hb15 rfl) ?_
    refine RW.op1 rfl (runs_move rfl) ?_
    refine RW.off_guard rfl rfl rfl rfl rfl ?_
    refine RW.off_guard rfl rfl rfl rfl rfl ?_
    refine RW.op1 rfl (runs_pick_true rfl rfl rfl) ?_
    refine RW.op1 rfl (runs_move rfl) ?_
    refine RW.off_guard rfl rfl rfl rfl rfl ?_
    refine RW.off_guard rfl rfl rfl rfl rfl ?_
    refine RW.op1 rfl (runs_pick_true rfl rfl rfl) ?_
    refine RW.op1 rfl (runs_move rfl) ?_
    refine RW.off_guard rfl rfl rfl rfl rfl ?_
    refine RW.off_guard rfl rfl rfl rfl rfl ?_
    refine RW.op1 rfl (runs_pick_true rfl rfl rfl) ?_
    refine RW.op1 rfl (runs_move rfl) ?_
    refine RW.off_guard rfl rfl rfl rfl rfl ?_
    refine RW.off_guard rfl rfl rfl rfl rfl ?_
    refine RW.off_guard rfl rfl rfl rfl rfl ?_
    refine RW.op1 rfl (runs_pick_true rfl rfl rfl) ?_
    refine RW.op1 rfl (runs_move rfl) ?_
    refine RW.off_guard rfl rfl rfl rfl rfl ?_
    refine RW.off_guard rfl rfl rfl rfl rfl ?_
    refine RW.op1 rfl (runs_pick_true rfl rfl rfl) ?_
    refine RW.op1 rfl (runs_move rfl) ?_
    refine RW.off_guard rfl rfl rfl rfl rfl ?_
    refine RW.off_guard rfl rfl rfl rfl rfl ?_
    refine RW.off_guard rfl rfl rfl rfl rfl ?_
    refine RW.op1 rfl (runs_pick_true rfl rfl rfl) ?_
    refine RW.done ?_
    refine AQ.next ?_
    refine CW.cond_true rfl ?_
    refine CW.seq ?_
    -- region 2
    refine CW.region ?_
    refine RW.op1 rfl (runs_assign rfl) ?_
    refine RW.op1 rfl (runs_assign rfl) ?_
    refine RW.done ?_
    refine AQ.next ?_
    refine CW.ret ?_
    refine AQ.past_ret ?_
    refine AQ.ret2 rfl rfl rfl ?_
    have hs : sealM e s p n b = false := by
      unfold sealM mayM
      simp_all <;> omega
    rw [hs]
    exact ⟨I, _, Imm.le.refl I, rfl, hst, RdL.nil 1⟩
  · have hb15p := hb15
    try simp only [decide_eq_true_eq, decide_eq_false_iff_not] at hb15p
    refine RW.on_guard rfl rfl rfl rfl hb15 ?_
    refine RW.op1 rfl (runs_move rfl) ?_
    refine RW.on_guard rfl rfl rfl rfl hb15 ?_
    refine RW.op1 rfl (runs_gtr rfl rfl) ?_
    refine RW.op1 rfl (runs_pick_false rfl hb15 rfl) ?_
    refine RW.op1 rfl (runs_move rfl) ?_
    refine RW.split (t := 19) rfl (fun hb19 => ?_) (fun hb19 => ?_)
    · have hb19p := hb19
      try simp only [decide_eq_true_eq, decide_eq_false_iff_not] at hb19p
      refine RW.off_guard rfl rfl rfl rfl hb19 ?_
      refine RW.off_guard rfl rfl rfl rfl hb19 ?_
      refine RW.op1 rfl (runs_pick_true rfl hb19 rfl) ?_
      refine RW.op1 rfl (runs_move rfl) ?_
      refine RW.off_guard rfl rfl rfl rfl rfl ?_
      refine RW.off_guard rfl rfl rfl rfl rfl ?_
      refine RW.op1 rfl (runs_pick_true rfl rfl rfl) ?_
      refine RW.op1 rfl (runs_move rfl) ?_
      refine RW.off_guard rfl rfl rfl rfl rfl ?_
      refine RW.off_guard rfl rfl rfl rfl rfl ?_
      refine RW.op1 rfl (runs_pick_true rfl rfl rfl) ?_
      refine RW.op1 rfl (runs_move rfl) ?_
      refine RW.off_guard rfl rfl rfl rfl rfl ?_
      refine RW.off_guard rfl rfl rfl rfl rfl ?_
      refine RW.off_guard rfl rfl rfl rfl rfl ?_
      refine RW.op1 rfl (runs_pick_true rfl rfl rfl) ?_
      refine RW.op1 rfl (runs_move rfl) ?_
      refine RW.off_guard rfl rfl rfl rfl rfl ?_
      refine RW.off_guard rfl rfl rfl rfl rfl ?_
      refine RW.op1 rfl (runs_pick_true rfl rfl rfl) ?_
      refine RW.op1 rfl (runs_move rfl) ?_
      refine RW.off_guard rfl rfl rfl rfl rfl ?_
      refine RW.off_guard rfl rfl rfl rfl rfl ?_
      refine RW.off_guard rfl rfl rfl rfl rfl ?_
      refine RW.op1 rfl (runs_pick_true rfl rfl rfl) ?_
      refine RW.done ?_
      refine AQ.next ?_
      refine CW.cond_true rfl ?_
      refine CW.seq ?_
      -- region 2
      refine CW.region ?_
      refine RW.op1 rfl (runs_assign rfl) ?_
      refine RW.op1 rfl (runs_assign rfl) ?_
      refine RW.done ?_
      refine AQ.next ?_
      refine CW.ret ?_
      refine AQ.past_ret ?_
      refine AQ.ret2 rfl rfl rfl ?_
      have hs : sealM e s p n b = false := by
        unfold sealM mayM
        simp_all <;> omega
      rw [hs]
      exact ⟨I, _, Imm.le.refl I, rfl, hst, RdL.nil 1⟩
    · have hb19p := hb19
      try simp only [decide_eq_true_eq, decide_eq_false_iff_not] at hb19p
      refine RW.on_guard rfl rfl rfl rfl hb19 ?_
      refine RW.op1 rfl (runs_move rfl) ?_
      refine RW.on_guard rfl rfl rfl rfl hb19 ?_
      refine RW.op1 rfl (runs_lss rfl rfl) ?_
      refine RW.op1 rfl (runs_pick_false rfl hb19 rfl) ?_
      refine RW.op1 rfl (runs_move rfl) ?_
      refine RW.split (t := 23) rfl (fun hb23 => ?_) (fun hb23 => ?_)
      · have hb23p := hb23
        try simp only [decide_eq_true_eq, decide_eq_false_iff_not] at hb23p
        refine RW.off_guard rfl rfl rfl rfl hb23 ?_
        refine RW.off_guard rfl rfl rfl rfl hb23 ?_
        refine RW.op1 rfl (runs_pick_true rfl hb23 rfl) ?_
        refine RW.op1 rfl (runs_move rfl) ?_
        refine RW.off_guard rfl rfl rfl rfl rfl ?_
        refine RW.off_guard rfl rfl rfl rfl rfl ?_
        refine RW.op1 rfl (runs_pick_true rfl rfl rfl) ?_
        refine RW.op1 rfl (runs_move rfl) ?_
        refine RW.off_guard rfl rfl rfl rfl rfl ?_
        refine RW.off_guard rfl rfl rfl rfl rfl ?_
        refine RW.off_guard rfl rfl rfl rfl rfl ?_
        refine RW.op1 rfl (runs_pick_true rfl rfl rfl) ?_
        refine RW.op1 rfl (runs_move rfl) ?_
        refine RW.off_guard rfl rfl rfl rfl rfl ?_
        refine RW.off_guard rfl rfl rfl rfl rfl ?_
        refine RW.op1 rfl (runs_pick_true rfl rfl rfl) ?_
        refine RW.op1 rfl (runs_move rfl) ?_
        refine RW.off_guard rfl rfl rfl rfl rfl ?_
        refine RW.off_guard rfl rfl rfl rfl rfl ?_
        refine RW.off_guard rfl rfl rfl rfl rfl ?_
        refine RW.op1 rfl (runs_pick_true rfl rfl rfl) ?_
        refine RW.done ?_
        refine AQ.next ?_
        refine CW.cond_true rfl ?_
        refine CW.seq ?_
        -- region 2
        refine CW.region ?_
        refine RW.op1 rfl (runs_assign rfl) ?_
        refine RW.op1 rfl (runs_assign rfl) ?_
        refine RW.done ?_
        refine AQ.next ?_
        refine CW.ret ?_
        refine AQ.past_ret ?_
        refine AQ.ret2 rfl rfl rfl ?_
        have hs : sealM e s p n b = false := by
          unfold sealM mayM
          simp_all <;> omega
        rw [hs]
        exact ⟨I, _, Imm.le.refl I, rfl, hst, RdL.nil 1⟩
      · have hb23p := hb23
        try simp only [decide_eq_true_eq, decide_eq_false_iff_not] at hb23p
        refine RW.on_guard rfl rfl rfl rfl hb23 ?_
        refine RW.op1 rfl (runs_move rfl) ?_
        refine RW.on_guard rfl rfl rfl rfl hb23 ?_
        refine RW.op1 rfl (runs_geq rfl rfl) ?_
        refine RW.op1 rfl (runs_pick_false rfl hb23 rfl) ?_
        refine RW.op1 rfl (runs_move rfl) ?_
        refine RW.split (t := 27) rfl (fun hb27 => ?_) (fun hb27 => ?_)
        · have hb27p := hb27
          try simp only [decide_eq_true_eq, decide_eq_false_iff_not] at hb27p
          refine RW.off_guard rfl rfl rfl rfl hb27 ?_
          refine RW.off_guard rfl rfl rfl rfl hb27 ?_
          refine RW.op1 rfl (runs_pick_true rfl hb27 rfl) ?_
          refine RW.op1 rfl (runs_move rfl) ?_
          refine RW.off_guard rfl rfl rfl rfl rfl ?_
          refine RW.off_guard rfl rfl rfl rfl rfl ?_
          refine RW.off_guard rfl rfl rfl rfl rfl ?_
          refine RW.op1 rfl (runs_pick_true rfl rfl rfl) ?_
          refine RW.op1 rfl (runs_move rfl) ?_
          refine RW.off_guard rfl rfl rfl rfl rfl ?_
          refine RW.off_guard rfl rfl rfl rfl rfl ?_
          refine RW.op1 rfl (runs_pick_true rfl rfl rfl) ?_
          refine RW.op1 rfl (runs_move rfl) ?_
          refine RW.off_guard rfl rfl rfl rfl rfl ?_
          refine RW.off_guard rfl rfl rfl rfl rfl ?_
          refine RW.off_guard rfl rfl rfl rfl rfl ?_
          refine RW.op1 rfl (runs_pick_true rfl rfl rfl) ?_
          refine RW.done ?_
          refine AQ.next ?_
          refine CW.cond_true rfl ?_
          refine CW.seq ?_
          -- region 2
          refine CW.region ?_
          refine RW.op1 rfl (runs_assign rfl) ?_
          refine RW.op1 rfl (runs_assign rfl) ?_
          refine RW.done ?_
          refine AQ.next ?_
          refine CW.ret ?_
          refine AQ.past_ret ?_
          refine AQ.ret2 rfl rfl rfl ?_
          have hs : sealM e s p n b = false := by
            unfold sealM mayM
            simp_all <;> omega
          rw [hs]
          exact ⟨I, _, Imm.le.refl I, rfl, hst, RdL.nil 1⟩
        · have hb27p := hb27
          try simp only [decide_eq_true_eq, decide_eq_false_iff_not] at hb27p
          refine RW.on_guard rfl rfl rfl rfl hb27 ?_
          refine RW.op1 rfl (runs_move rfl) ?_
          refine RW.on_guard rfl rfl rfl rfl hb27 ?_
          refine RW.op1 rfl (runs_lss rfl rfl) ?_
          refine RW.op1 rfl (runs_pick_false rfl hb27 rfl) ?_
          refine RW.op1 rfl (runs_move rfl) ?_
          refine RW.split (t := 31) rfl (fun hb31 => ?_) (fun hb31 => ?_)
          · have hb31p := hb31
            try simp only [decide_eq_true_eq, decide_eq_false_iff_not] at hb31p
            refine RW.off_guard rfl rfl rfl rfl hb31 ?_
            refine RW.off_guard rfl rfl rfl rfl hb31 ?_
            refine RW.off_guard rfl rfl rfl rfl hb31 ?_
            refine RW.op1 rfl (runs_pick_true rfl hb31 rfl) ?_
            refine RW.op1 rfl (runs_move rfl) ?_
            refine RW.off_guard rfl rfl rfl rfl rfl ?_
            refine RW.off_guard rfl rfl rfl rfl rfl ?_
            refine RW.op1 rfl (runs_pick_true rfl rfl rfl) ?_
            refine RW.op1 rfl (runs_move rfl) ?_
            refine RW.off_guard rfl rfl rfl rfl rfl ?_
            refine RW.off_guard rfl rfl rfl rfl rfl ?_
            refine RW.off_guard rfl rfl rfl rfl rfl ?_
            refine RW.op1 rfl (runs_pick_true rfl rfl rfl) ?_
            refine RW.done ?_
            refine AQ.next ?_
            refine CW.cond_true rfl ?_
            refine CW.seq ?_
            -- region 2
            refine CW.region ?_
            refine RW.op1 rfl (runs_assign rfl) ?_
            refine RW.op1 rfl (runs_assign rfl) ?_
            refine RW.done ?_
            refine AQ.next ?_
            refine CW.ret ?_
            refine AQ.past_ret ?_
            refine AQ.ret2 rfl rfl rfl ?_
            have hs : sealM e s p n b = false := by
              unfold sealM mayM
              simp_all <;> omega
            rw [hs]
            exact ⟨I, _, Imm.le.refl I, rfl, hst, RdL.nil 1⟩
          · have hb31p := hb31
            try simp only [decide_eq_true_eq, decide_eq_false_iff_not] at hb31p
            refine RW.on_guard rfl rfl rfl rfl hb31 ?_
            refine RW.op1 rfl (runs_move rfl) ?_
            refine RW.on_guard rfl rfl rfl rfl hb31 ?_
            refine RW.op1 rfl (runs_move rfl) ?_
            refine RW.on_guard rfl rfl rfl rfl hb31 ?_
            refine RW.op1 rfl (runs_geq rfl rfl) ?_
            refine RW.op1 rfl (runs_pick_false rfl hb31 rfl) ?_
            refine RW.op1 rfl (runs_move rfl) ?_
            refine RW.split (t := 36) rfl (fun hb36 => ?_) (fun hb36 => ?_)
            · have hb36p := hb36
              try simp only [decide_eq_true_eq, decide_eq_false_iff_not] at hb36p
              refine RW.off_guard rfl rfl rfl rfl hb36 ?_
              refine RW.off_guard rfl rfl rfl rfl hb36 ?_
              refine RW.op1 rfl (runs_pick_true rfl hb36 rfl) ?_
              refine RW.op1 rfl (runs_move rfl) ?_
              refine RW.off_guard rfl rfl rfl rfl rfl ?_
              refine RW.off_guard rfl rfl rfl rfl rfl ?_
              refine RW.off_guard rfl rfl rfl rfl rfl ?_
              refine RW.op1 rfl (runs_pick_true rfl rfl rfl) ?_
              refine RW.done ?_
              refine AQ.next ?_
              refine CW.cond_true rfl ?_
              refine CW.seq ?_
              -- region 2
              refine CW.region ?_
              refine RW.op1 rfl (runs_assign rfl) ?_
              refine RW.op1 rfl (runs_assign rfl) ?_
              refine RW.done ?_
              refine AQ.next ?_
              refine CW.ret ?_
              refine AQ.past_ret ?_
              refine AQ.ret2 rfl rfl rfl ?_
              have hs : sealM e s p n b = false := by
                unfold sealM mayM
                simp_all <;> omega
              rw [hs]
              exact ⟨I, _, Imm.le.refl I, rfl, hst, RdL.nil 1⟩
            · have hb36p := hb36
              try simp only [decide_eq_true_eq, decide_eq_false_iff_not] at hb36p
              refine RW.on_guard rfl rfl rfl rfl hb36 ?_
              refine RW.op1 rfl (runs_move rfl) ?_
              refine RW.on_guard rfl rfl rfl rfl hb36 ?_
              refine RW.op1 rfl (runs_gtr rfl rfl) ?_
              refine RW.op1 rfl (runs_pick_false rfl hb36 rfl) ?_
              refine RW.op1 rfl (runs_move rfl) ?_
              refine RW.split (t := 40) rfl (fun hb40 => ?_) (fun hb40 => ?_)
              · have hb40p := hb40
                try simp only [decide_eq_true_eq, decide_eq_false_iff_not] at hb40p
                refine RW.off_guard rfl rfl rfl rfl hb40 ?_
                refine RW.off_guard rfl rfl rfl rfl hb40 ?_
                refine RW.off_guard rfl rfl rfl rfl hb40 ?_
                refine RW.op1 rfl (runs_pick_true rfl hb40 rfl) ?_
                refine RW.done ?_
                refine AQ.next ?_
                refine CW.cond_true rfl ?_
                refine CW.seq ?_
                -- region 2
                refine CW.region ?_
                refine RW.op1 rfl (runs_assign rfl) ?_
                refine RW.op1 rfl (runs_assign rfl) ?_
                refine RW.done ?_
                refine AQ.next ?_
                refine CW.ret ?_
                refine AQ.past_ret ?_
                refine AQ.ret2 rfl rfl rfl ?_
                have hs : sealM e s p n b = false := by
                  unfold sealM mayM
                  simp_all <;> omega
                rw [hs]
                exact ⟨I, _, Imm.le.refl I, rfl, hst, RdL.nil 1⟩
              · have hb40p := hb40
                try simp only [decide_eq_true_eq, decide_eq_false_iff_not] at hb40p
                refine RW.on_guard rfl rfl rfl rfl hb40 ?_
                refine RW.op1 rfl (runs_move rfl) ?_
                refine RW.on_guard rfl rfl rfl rfl hb40 ?_
                first
                  | refine RW.op1 rfl (RdL.len Try.underlying24 rfl (by assumption)) ?_
                  | refine RW.op1 rfl (runs_lenL Try.underlying24 rfl) ?_
                  | refine RW.op1 rfl (Grow.len Try.underlying24 rfl (by assumption)) ?_
                refine RW.on_guard rfl rfl rfl rfl hb40 ?_
                refine RW.op1 rfl (runs_gtr rfl rfl) ?_
                refine RW.op1 rfl (runs_pick_false rfl hb40 rfl) ?_
                refine RW.done ?_
                refine AQ.next ?_
                refine CW.cond rfl (fun hc44 => ?_) (fun hc44 => ?_)
                · have hcb44 := hc44
                  try simp only [decide_eq_true_eq, decide_eq_false_iff_not] at hc44
                  refine CW.seq ?_
                  -- region 2
                  refine CW.region ?_
                  refine RW.op1 rfl (runs_assign rfl) ?_
                  refine RW.op1 rfl (runs_assign rfl) ?_
                  refine RW.done ?_
                  refine AQ.next ?_
                  refine CW.ret ?_
                  refine AQ.past_ret ?_
                  refine AQ.ret2 rfl rfl rfl ?_
                  have hs : sealM e s p n b = false := by
                    unfold sealM mayM
                    simp_all <;> omega
                  rw [hs]
                  exact ⟨I, _, Imm.le.refl I, rfl, hst, RdL.nil 1⟩
                · have hcb44 := hc44
                  try simp only [decide_eq_true_eq, decide_eq_false_iff_not] at hc44
                  refine CW.skip ?_
                  refine AQ.next ?_
                  refine CW.seq ?_
                  -- region 3
                  refine CW.region ?_
                  refine RW.op1 rfl (runs_move rfl) ?_
                  refine RW.call rfl call38 rfl rfl (two_spec hst e) ?_
                  rintro e w ⟨u46, Lv46, rfl, hstn, hg46⟩
                  clear hst
                  have hst := hstn
                  clear hstn
                  refine ⟨_, rfl, ?_⟩
                  refine RW.op1 rfl (runs_move rfl) ?_
                  refine RW.call rfl call39 rfl rfl (three_spec hst s) ?_
                  rintro e w ⟨u48, Lv48, rfl, hstn, hg48⟩
                  clear hst
                  have hst := hstn
                  clear hstn
                  obtain ⟨I48, hI48, hstn, h48⟩ := GrowB.freeze hg48 hst
                  clear hst
                  have hst := hstn
                  clear hstn
                  replace hv := hv.mono hI48
                  replace hle := hle.trans hI48
                  refine ⟨_, rfl, ?_⟩
                  refine RW.opE rfl (runs_appendB Try.underlying24 ti5 rfl rfl hst (by assumption) (by assumption) (by (try simp) <;> omega)) ?_
                  rintro u3 w ⟨Lv3, hstn, hg3⟩
                  clear hst
                  have hst := hstn
                  clear hstn
                  refine RW.op1 rfl (runs_assign rfl) ?_
                  refine RW.done ?_
                  refine AQ.next ?_
                  refine CW.seq ?_
                  -- region 4
                  refine CW.region ?_
                  refine RW.op1 rfl (runs_move rfl) ?_
                  refine RW.op1 rfl (runs_move rfl) ?_
                  refine RW.op1 rfl (runs_convB (by rw [Try.underlying3]; rfl) Try.underlying5 rfl) ?_
                  refine RW.op1 rfl (runs_move rfl) ?_
                  refine RW.op1 rfl (runs_convB (by rw [Try.underlying3]; rfl) Try.underlying5 rfl) ?_
                  refine RW.op1 rfl (runs_move rfl) ?_
                  first
                    | refine RW.op1 rfl (RdL.len Try.underlying24 rfl (by assumption)) ?_
                    | refine RW.op1 rfl (runs_lenL Try.underlying24 rfl) ?_
                    | refine RW.op1 rfl (Grow.len Try.underlying24 rfl (by assumption)) ?_
                  refine RW.op1 rfl (runs_convB (by rw [Try.underlying3]; rfl) Try.underlying5 rfl) ?_
                  refine RW.opE rfl (runs_litB (bs := [_, _, _]) rfl Try.underlying24 ti5 (by decide) rfl rfl rfl hst) ?_
                  rintro u4 w ⟨I4, hI4, hstn, h4⟩
                  clear hst
                  have hst := hstn
                  clear hstn
                  replace hv := hv.mono hI4
                  replace h48 := h48.mono hI4
                  replace hle := hle.trans hI4
                  refine RW.opE rfl (runs_appendB Try.underlying24 ti5 rfl rfl hst (by assumption) (by assumption) (by (try simp) <;> omega)) ?_
                  rintro u5 w ⟨Lv5, hstn, hg5⟩
                  clear hst
                  have hst := hstn
                  clear hstn
                  refine RW.op1 rfl (runs_assign rfl) ?_
                  refine RW.done ?_
                  refine AQ.next ?_
                  refine CW.seq ?_
                  -- region 5
                  refine CW.region ?_
                  refine RW.op1 rfl (runs_move rfl) ?_
                  refine RW.op1 rfl (runs_move rfl) ?_
                  refine RW.opE rfl (runs_appendB Try.underlying24 ti5 rfl rfl hst (by assumption) (by assumption) (by (try simp) <;> omega)) ?_
                  rintro u6 w ⟨Lv6, hstn, hg6⟩
                  clear hst
                  have hst := hstn
                  clear hstn
                  refine RW.op1 rfl (runs_move rfl) ?_
                  first
                    | refine RW.op1 rfl (RdL.len Try.underlying24 rfl (by assumption)) ?_
                    | refine RW.op1 rfl (runs_lenL Try.underlying24 rfl) ?_
                    | refine RW.op1 rfl (Grow.len Try.underlying24 rfl (by assumption)) ?_
                  refine RW.op1 rfl (runs_sub rfl rfl (by (try simp) <;> omega)) ?_
                  rw [show (19 : Int) - (b.length : Int) = ((19 - b.length : Nat) : Int) by omega]
                  refine RW.call rfl call40 rfl rfl (zeros_spec hst (19 - b.length) (by omega)) ?_
                  rintro e w ⟨I66, u66, hI66, rfl, hstn, h66⟩
                  clear hst
                  have hst := hstn
                  clear hstn
                  replace hv := hv.mono hI66
                  replace h48 := h48.mono hI66
                  replace h4 := h4.mono hI66
                  replace hle := hle.trans hI66
                  refine ⟨_, rfl, ?_⟩
                  refine RW.opE rfl (runs_appendB Try.underlying24 ti5 rfl rfl hst (by assumption) (by assumption) (by (try simp) <;> omega)) ?_
                  rintro u8 w ⟨Lv8, hstn, hg8⟩
                  clear hst
                  have hst := hstn
                  clear hstn
                  refine RW.op1 rfl (runs_assign rfl) ?_
                  refine RW.done ?_
                  refine AQ.next ?_
                  refine CW.seq ?_
                  -- region 6
                  refine CW.region ?_
                  refine RW.op1 rfl (runs_move rfl) ?_
                  refine RW.op1 rfl (runs_move rfl) ?_
                  refine RW.call rfl call39 rfl rfl (three_spec hst s) ?_
                  rintro e w ⟨u70, Lv70, rfl, hstn, hg70⟩
                  clear hst
                  have hst := hstn
                  clear hstn
                  obtain ⟨I70, hI70, hstn, h70⟩ := GrowB.freeze hg70 hst
                  clear hst
                  have hst := hstn
                  clear hstn
                  replace hv := hv.mono hI70
                  replace h48 := h48.mono hI70
                  replace h4 := h4.mono hI70
                  replace h66 := h66.mono hI70
                  replace hle := hle.trans hI70
                  refine ⟨_, rfl, ?_⟩
                  refine RW.opE rfl (runs_appendB Try.underlying24 ti5 rfl rfl hst (by assumption) (by assumption) (by (try simp) <;> omega)) ?_
                  rintro u10 w ⟨Lv10, hstn, hg10⟩
                  clear hst
                  have hst := hstn
                  clear hstn
                  refine RW.op1 rfl (runs_move rfl) ?_
                  refine RW.call rfl call38 rfl rfl (two_spec hst e) ?_
                  rintro e w ⟨u73, Lv73, rfl, hstn, hg73⟩
                  clear hst
                  have hst := hstn
                  clear hstn
                  obtain ⟨I73, hI73, hstn, h73⟩ := GrowB.freeze hg73 hst
                  clear hst
                  have hst := hstn
                  clear hstn
                  replace hv := hv.mono hI73
                  replace h48 := h48.mono hI73
                  replace h4 := h4.mono hI73
                  replace h66 := h66.mono hI73
                  replace h70 := h70.mono hI73
                  replace hle := hle.trans hI73
                  refine ⟨_, rfl, ?_⟩
                  refine RW.opE rfl (runs_appendB Try.underlying24 ti5 rfl rfl hst (by assumption) (by assumption) (by (try simp) <;> omega)) ?_
                  rintro u12 w ⟨Lv12, hstn, hg12⟩
                  clear hst
                  have hst := hstn
                  clear hstn
                  refine RW.op1 rfl (runs_assign rfl) ?_
                  refine RW.op1 rfl (runs_assign rfl) ?_
                  refine RW.done ?_
                  refine AQ.next ?_
                  refine CW.ret ?_
                  refine AQ.ret2 rfl rfl rfl ?_
                  have hs : sealM e s p n b = true := by
                    unfold sealM mayM
                    simp_all <;> omega
                  rw [hs]
                  obtain ⟨I', hI, hst, hr⟩ := GrowB.freeze (by assumption) hst
                  exact ⟨I', _, hle.trans hI, rfl, hst, hr⟩
set_option maxRecDepth 100000 in
set_option maxHeartbeats 1000000 in
theorem bytes_spec {w0 w : World} {I : Imm} {L : Own} (hst : St w0 w I L) (n size : Int) (hn : i64ok n) (hs : size ≤ 1000000) :
    Calls Try.prog 17 #[.int .i64 n, .int .i64 size] w fun e w' => ∃ I' v', Imm.le I I' ∧ e = .returned v' ∧ St w0 w' I' L ∧ RdB I' v' (bytesOf n size) := by
  unfold i64ok at hn
  refine enter Try.func17 rfl (N := 28) rfl rfl ?_
  simp only [List.zipIdx_cons, List.zipIdx_nil, List.map_cons, List.map_nil, Nat.zero_add, Nat.reduceAdd]
  have hle := Imm.le.refl I
  refine CW.seq ?_
  -- region 0
  refine CW.region ?_
  refine RW.op1 rfl (runs_assign rfl) ?_
  refine RW.done ?_
  refine AQ.next ?_
  refine CW.seq ?_
  -- region 1
  refine CW.region ?_
  refine RW.op1 rfl (runs_move rfl) ?_
  refine RW.op1 rfl (runs_max rfl rfl) ?_
  obtain ⟨m, hm⟩ : ∃ m : Nat, m = size.toNat := ⟨_, rfl⟩
  have hmx : (if (0 : Int) > size then (0 : Int) else size) = (m : Int) := by split <;> omega
  rw [hmx]
  refine RW.opE rfl (runs_makeSlice (n := m) Try.underlying24 ti5 rfl hst (by omega) (by unfold maxLen; omega)) ?_
  rintro _ w ⟨b1, rfl, hstn⟩
  clear hst
  have hst := hstn
  clear hstn
  refine RW.op1 rfl (runs_assign rfl) ?_
  rw [made_b8] at hst
  refine RW.done ?_
  refine AQ.next ?_
  refine CW.seq ?_
  refine CW.seq ?_
  -- region 2
  refine CW.region ?_
  refine RW.op1 rfl (runs_move rfl) ?_
  first
    | refine RW.op1 rfl (RdL.len Try.underlying24 rfl (by assumption)) ?_
    | refine RW.op1 rfl (runs_lenL Try.underlying24 rfl) ?_
    | refine RW.op1 rfl (Grow.len Try.underlying24 rfl (by assumption)) ?_
  refine RW.op1 rfl (runs_move rfl) ?_
  refine RW.done ?_
  refine AQ.next ?_
  refine CW.block ?_
  -- loop 1
  refine CW.loop Nat (fun k w => St w0 w I ((b1, .cells ((bytesTo n m k).map b8).toArray 5) :: L) ∧ k ≤ m) (fun k => [(0, .int .i64 n), (5, .slice (some ⟨b1, 0, none⟩) m m), (11, .int .i64 (m : Int)), (12, .int .i64 (k : Int))]) (fun k => m - k) ⟨0, ⟨by rw [bytesTo_zero]; exact hst, Nat.zero_le _⟩, ⟨rfl, rfl, rfl, rfl, trivial⟩⟩ ?_
  rintro k w ⟨hst, hk⟩
  refine CW.seq ?_
  -- region 3
  refine CW.region ?_
  refine RW.op1 rfl (runs_lss rfl rfl) ?_
  refine RW.done ?_
  refine AQ.next ?_
  refine CW.seq ?_
  refine CW.cond rfl (fun hc13 => ?_) (fun hc13 => ?_)
  · have hcb13 := hc13
    try simp only [decide_eq_true_eq, decide_eq_false_iff_not] at hc13
    refine CW.skip ?_
    refine AQ.next ?_
    refine CW.seq ?_
    refine CW.block ?_
    refine CW.seq ?_
    -- region 4
    refine CW.region ?_
    refine RW.op1 rfl (runs_move rfl) ?_
    refine RW.op1 rfl (runs_assign rfl) ?_
    refine RW.done ?_
    refine AQ.next ?_
    -- region 5
    refine CW.region ?_
    refine RW.op1 rfl (runs_move rfl) ?_
    refine RW.op1 rfl (runs_move rfl) ?_
    refine RW.op1 rfl (runs_move rfl) ?_
    refine RW.op1 rfl (runs_move rfl) ?_
    refine RW.op1 rfl (runs_move rfl) ?_
    refine RW.op1 rfl (runs_quo rfl rfl (by decide)) ?_
    refine RW.op1 rfl (runs_or rfl rfl) ?_
    refine RW.op1 rfl (runs_mulW rfl rfl) ?_
    refine RW.op1 rfl (runs_addW rfl rfl) ?_
    refine RW.op1 rfl (runs_convB (by rw [Try.underlying3]; rfl) Try.underlying5 rfl) ?_
    first
      | refine RW.op1 rfl (RdL.indexAddr Try.underlying24 ti5 (by decide) rfl rfl (by assumption) (by omega)) ?_
      | refine RW.op1 rfl (runs_indexAddr0 Try.underlying24 ti5 rfl rfl (by omega)) ?_
    refine RW.opE0 (runs_store1' ti5 rfl rfl hst (k := 0) rfl (by simp [bytesTo_length hk]; omega) (NoFz.zero _) rfl) ?_
    rintro w hstn
    clear hst
    have hst := hstn
    clear hstn
    try simp only [List.set_cons_zero, List.set_cons_succ] at hst
    refine RW.done ?_
    refine AQ.block_normal ?_
    refine AQ.next ?_
    -- region 6
    refine CW.region ?_
    refine RW.op1 rfl (runs_add rfl rfl (by omega)) ?_
    refine RW.op1 rfl (runs_move rfl) ?_
    refine RW.done ?_
    refine AQ.again (k + 1) ⟨?_, by omega⟩ ⟨rfl, rfl, rfl, rfl, trivial⟩ (by omega)
    have e : (0 + (k : Int).toNat * 1) = k := by omega
    have h9 := set_b8 (bytesTo n m k) k (byteAt n k)
    rw [bytesTo_set (by omega)] at h9
    rw [← h9]
    simp only [List.set_cons_zero, e] at hst
    exact hst
  · have hcb13 := hc13
    try simp only [decide_eq_true_eq, decide_eq_false_iff_not] at hc13
    refine CW.exit ?_
    refine AQ.past_exit ?_
    refine AQ.past_exit ?_
    refine AQ.block_hit ?_
    refine AQ.next ?_
    refine CW.seq ?_
    -- region 7
    refine CW.region ?_
    refine RW.op1 rfl (runs_move rfl) ?_
    refine RW.op1 rfl (runs_assign rfl) ?_
    refine RW.done ?_
    refine AQ.next ?_
    refine CW.ret ?_
    refine AQ.ret1 rfl rfl ?_
    have : k = m := by omega
    subst this
    rw [bytesTo_end] at hst
    obtain ⟨I', hI, hst, hr⟩ := RdB.of_block (n := k) (by simp) hst (by unfold maxLen; omega)
    exact ⟨I', _, hI, rfl, hst, by unfold bytesOf; rw [← hm]; exact hr⟩
end Go.Proofs.YtcbndkllppmmmaaX
