/- The document's spans, fits, heads of a range: what these come to. -/
import Derived.Test.YtjlkidokkaibiaaDoorT
import Derived.Test.YtjlkidokkaibiaaDoorJ7
namespace Go.Proofs.YtjlkidokkaibiaaDoorX
set_option linter.unusedVariables false
set_option linter.unusedSimpArgs false
open Go Go.RowKit Go.Proofs

theorem strOf_nil {l : List UInt8} : ((strOf l).toList == ([] : List UInt8)) = true ↔ l = [] := by rw [strOf_toList]; simp
theorem numberN (l : List UInt8) : strOf l = strOf l := rfl
set_option maxRecDepth 100000 in
set_option maxHeartbeats 1000000 in
theorem refSpan0_spec {w0 w : World} {I : Imm} {L : Own} (hst : St w0 w I L) (s : ByteArray) (hs : s.size ≤ 9223372036854775807) :
    Calls Tryd.prog 15 #[.string s] w fun e w' => e = .returned (.tuple #[.int .i64 (refSpanR s).1, .int .i64 (refSpanR s).2.1, .int .i64 (refSpanR s).2.2.1, .bool (refSpanR s).2.2.2]) ∧ St w0 w' I L := by
  have hsl := size_toList s
  refine enter Tryd.func15 rfl (N := 71) rfl rfl ?_
  simp only [List.zipIdx_cons, List.zipIdx_nil, List.map_cons, List.map_nil, Nat.zero_add, Nat.reduceAdd]
  have hle := Imm.le.refl I
  refine CW.seq ?_
  -- region 0
  refine CW.region ?_
  refine RW.op1 rfl (runs_assign rfl) ?_
  refine RW.op1 rfl (runs_assign rfl) ?_
  refine RW.op1 rfl (runs_assign rfl) ?_
  refine RW.op1 rfl (runs_assign rfl) ?_
  refine RW.done ?_
  refine AQ.next ?_
  refine CW.seq ?_
  refine CW.seq ?_
  -- region 1
  refine CW.region ?_
  refine RW.op1 rfl (runs_move rfl) ?_
  refine RW.call rfl call29 rfl rfl (begins_spec hst s bytesS) ?_
  rintro e w ⟨rfl, hstn⟩
  clear hst
  have hst := hstn
  clear hstn
  refine ⟨_, rfl, ?_⟩
  refine RW.op1 rfl (runs_not rfl) ?_
  refine RW.done ?_
  refine AQ.next ?_
  refine CW.cond rfl (fun hc15 => ?_) (fun hc15 => ?_)
  · have hcb15 := hc15
    try simp only [decide_eq_true_eq, decide_eq_false_iff_not] at hc15
    have h0 : refSpanR s = Z3 := by unfold refSpanR; rw [if_neg (by simpa using hc15)]
    refine CW.seq ?_
    -- region 2
    refine CW.region ?_
    refine RW.op1 rfl (runs_assign rfl) ?_
    refine RW.op1 rfl (runs_assign rfl) ?_
    refine RW.op1 rfl (runs_assign rfl) ?_
    refine RW.op1 rfl (runs_assign rfl) ?_
    refine RW.done ?_
    refine AQ.next ?_
    refine CW.ret ?_
    refine AQ.past_ret ?_
    refine AQ.retL (rs := [.tmp 2, .tmp 3, .tmp 4, .tmp 5]) (vs := [_, _, _, _]) rfl ⟨rfl, rfl, rfl, rfl, trivial⟩ (by simp) ?_
    rw [h0]
    exact ⟨rfl, hst⟩
  · have hcb15 := hc15
    try simp only [decide_eq_true_eq, decide_eq_false_iff_not] at hc15
    have hp : preS s bytesS = true := by simpa using hc15
    have h6 : 6 ≤ s.size := by
      have := hp
      unfold preS at this
      rw [Bool.and_eq_true, decide_eq_true_eq] at this
      have h7 : bytesS.size = 6 := rfl
      omega
    obtain ⟨r, hr⟩ : ∃ r, s.toList.drop 6 = r := ⟨_, rfl⟩
    have hrl : r.length ≤ s.size := by rw [← hr, List.length_drop]; omega
    have h0 : refSpanR s = if (untilL [45] r).2 = [] then Z3 else if (untilL [47] ((untilL [45] r).2.drop 1)).2 = [] then Z3 else span3 (numberR (untilL [45] r).1) (numberR (untilL [47] ((untilL [45] r).2.drop 1)).1) (numberR ((untilL [47] ((untilL [45] r).2.drop 1)).2.drop 1)) := by unfold refSpanR; rw [if_pos hp, hr]
    have hx := untilL_len [45] r
    generalize hxx : untilL [45] r = x at h0 hx
    obtain ⟨a, q⟩ := x
    dsimp only at h0 hx
    refine CW.skip ?_
    refine AQ.next ?_
    refine CW.seq ?_
    -- region 3
    refine CW.region ?_
    refine RW.op1 rfl (runs_move rfl) ?_
    refine RW.op1 rfl (runs_sliceS_l Tryd.underlying9 rfl rfl (by omega)) ?_
    rw [show s.extract ((6 : Int)).toNat s.size = strOf r from by rw [extractE, show ((6 : Int)).toNat = 6 from rfl, hr, List.take_of_length_le (by rw [← hr, List.length_drop]; omega)]]
    refine RW.call rfl call30 rfl rfl (until_spec hst (strOf r) ⟨#[45]⟩ (by rw [strOfZ]; omega) (by decide)) ?_
    rintro e w ⟨rfl, hstn⟩
    clear hst
    have hst := hstn
    clear hstn
    rw [strOf_toList, show (ByteArray.mk #[45]).toList = [45] from oneS_list 45, hxx]
    dsimp only
    refine ⟨_, rfl, ?_⟩
    refine RW.op1 rfl (runs_move rfl) ?_
    refine RW.op1 rfl (runs_extract rfl rfl) ?_
    refine RW.op1 rfl (runs_extract rfl rfl) ?_
    refine RW.op1 rfl (runs_assign rfl) ?_
    refine RW.op1 rfl (runs_assign rfl) ?_
    refine RW.done ?_
    refine AQ.next ?_
    refine CW.seq ?_
    refine CW.seq ?_
    -- region 4
    refine CW.region ?_
    refine RW.op1 rfl (runs_move rfl) ?_
    refine RW.op1 rfl (runs_eqS rfl rfl) ?_
    refine RW.done ?_
    refine AQ.next ?_
    refine CW.cond rfl (fun hc23 => ?_) (fun hc23 => ?_)
    · have hcb23 := hc23
      try simp only [decide_eq_true_eq, decide_eq_false_iff_not] at hc23
      have hq : q = [] := by rw [emptyL] at hc23; exact strOf_nil.1 hc23
      rw [if_pos hq] at h0
      refine CW.seq ?_
      -- region 5
      refine CW.region ?_
      refine RW.op1 rfl (runs_assign rfl) ?_
      refine RW.op1 rfl (runs_assign rfl) ?_
      refine RW.op1 rfl (runs_assign rfl) ?_
      refine RW.op1 rfl (runs_assign rfl) ?_
      refine RW.done ?_
      refine AQ.next ?_
      refine CW.ret ?_
      refine AQ.past_ret ?_
      refine AQ.retL (rs := [.tmp 2, .tmp 3, .tmp 4, .tmp 5]) (vs := [_, _, _, _]) rfl ⟨rfl, rfl, rfl, rfl, trivial⟩ (by simp) ?_
      rw [h0]
      exact ⟨rfl, hst⟩
    · have hcb23 := hc23
      try simp only [decide_eq_true_eq, decide_eq_false_iff_not] at hc23
      have hq : ¬ q = [] := fun h => by rw [emptyL, strOf_toList, h] at hc23; exact absurd hc23 (by decide)
      rw [if_neg hq] at h0
      have hq1 : 0 < q.length := List.length_pos_iff.2 hq
      have hy := untilL_len [47] (q.drop 1)
      rw [List.length_drop] at hy
      generalize hyy : untilL [47] (q.drop 1) = y at h0 hy
      obtain ⟨b, t⟩ := y
      dsimp only at h0 hy
      refine CW.skip ?_
      refine AQ.next ?_
      refine CW.seq ?_
      -- region 6
      refine CW.region ?_
      refine RW.op1 rfl (runs_move rfl) ?_
      refine RW.op1 rfl (runs_sliceS_l Tryd.underlying9 rfl rfl (by rw [strOfZ]; omega)) ?_
      rw [show (strOf q).extract ((1 : Int)).toNat (strOf q).size = strOf (q.drop 1) from by rw [extractE, strOf_toList, show ((1 : Int)).toNat = 1 from rfl, List.take_of_length_le (by rw [strOfZ, List.length_drop]; omega)]]
      refine RW.call rfl call30 rfl rfl (until_spec hst (strOf (q.drop 1)) ⟨#[47]⟩ (by rw [strOfZ, List.length_drop]; omega) (by decide)) ?_
      rintro e w ⟨rfl, hstn⟩
      clear hst
      have hst := hstn
      clear hstn
      rw [strOf_toList, show (ByteArray.mk #[47]).toList = [47] from oneS_list 47, hyy]
      dsimp only
      refine ⟨_, rfl, ?_⟩
      refine RW.op1 rfl (runs_move rfl) ?_
      refine RW.op1 rfl (runs_extract rfl rfl) ?_
      refine RW.op1 rfl (runs_extract rfl rfl) ?_
      refine RW.op1 rfl (runs_assign rfl) ?_
      refine RW.op1 rfl (runs_assign rfl) ?_
      refine RW.done ?_
      refine AQ.next ?_
      refine CW.seq ?_
      refine CW.seq ?_
      -- region 7
      refine CW.region ?_
      refine RW.op1 rfl (runs_move rfl) ?_
      refine RW.op1 rfl (runs_eqS rfl rfl) ?_
      refine RW.done ?_
      refine AQ.next ?_
      refine CW.cond rfl (fun hc31 => ?_) (fun hc31 => ?_)
      · have hcb31 := hc31
        try simp only [decide_eq_true_eq, decide_eq_false_iff_not] at hc31
        have hq : t = [] := by rw [emptyL] at hc31; exact strOf_nil.1 hc31
        rw [if_pos hq] at h0
        refine CW.seq ?_
        -- region 8
        refine CW.region ?_
        refine RW.op1 rfl (runs_assign rfl) ?_
        refine RW.op1 rfl (runs_assign rfl) ?_
        refine RW.op1 rfl (runs_assign rfl) ?_
        refine RW.op1 rfl (runs_assign rfl) ?_
        refine RW.done ?_
        refine AQ.next ?_
        refine CW.ret ?_
        refine AQ.past_ret ?_
        refine AQ.retL (rs := [.tmp 2, .tmp 3, .tmp 4, .tmp 5]) (vs := [_, _, _, _]) rfl ⟨rfl, rfl, rfl, rfl, trivial⟩ (by simp) ?_
        rw [h0]
        exact ⟨rfl, hst⟩
      · have hcb31 := hc31
        try simp only [decide_eq_true_eq, decide_eq_false_iff_not] at hc31
        have hq : ¬ t = [] := fun h => by rw [emptyL, strOf_toList, h] at hc31; exact absurd hc31 (by decide)
        rw [if_neg hq] at h0
        have ht1 : 0 < t.length := List.length_pos_iff.2 hq
        refine CW.skip ?_
        refine AQ.next ?_
        refine CW.seq ?_
        -- region 9
        refine CW.region ?_
        refine RW.op1 rfl (runs_move rfl) ?_
        refine RW.call rfl call31 rfl rfl (figures_spec hst (strOf a) (by rw [strOfZ]; omega)) ?_
        rintro e w ⟨rfl, hstn⟩
        clear hst
        have hst := hstn
        clear hstn
        rw [strOf_toList]
        refine ⟨_, rfl, ?_⟩
        refine RW.op1 rfl (runs_move rfl) ?_
        refine RW.op1 rfl (runs_extract rfl rfl) ?_
        refine RW.op1 rfl (runs_extract rfl rfl) ?_
        refine RW.op1 rfl (runs_assign rfl) ?_
        refine RW.op1 rfl (runs_assign rfl) ?_
        refine RW.done ?_
        refine AQ.next ?_
        refine CW.seq ?_
        -- region 10
        refine CW.region ?_
        refine RW.op1 rfl (runs_move rfl) ?_
        refine RW.call rfl call31 rfl rfl (figures_spec hst (strOf b) (by rw [strOfZ]; omega)) ?_
        rintro e w ⟨rfl, hstn⟩
        clear hst
        have hst := hstn
        clear hstn
        rw [strOf_toList]
        refine ⟨_, rfl, ?_⟩
        refine RW.op1 rfl (runs_move rfl) ?_
        refine RW.op1 rfl (runs_extract rfl rfl) ?_
        refine RW.op1 rfl (runs_extract rfl rfl) ?_
        refine RW.op1 rfl (runs_assign rfl) ?_
        refine RW.op1 rfl (runs_assign rfl) ?_
        refine RW.done ?_
        refine AQ.next ?_
        refine CW.seq ?_
        -- region 11
        refine CW.region ?_
        refine RW.op1 rfl (runs_move rfl) ?_
        refine RW.op1 rfl (runs_sliceS_l Tryd.underlying9 rfl rfl (by rw [strOfZ]; omega)) ?_
        rw [show (strOf t).extract ((1 : Int)).toNat (strOf t).size = strOf (t.drop 1) from by rw [extractE, strOf_toList, show ((1 : Int)).toNat = 1 from rfl, List.take_of_length_le (by rw [strOfZ, List.length_drop]; omega)]]
        refine RW.call rfl call31 rfl rfl (figures_spec hst (strOf (t.drop 1)) (by rw [strOfZ, List.length_drop]; omega)) ?_
        rintro e w ⟨rfl, hstn⟩
        clear hst
        have hst := hstn
        clear hstn
        rw [strOf_toList]
        refine ⟨_, rfl, ?_⟩
        refine RW.op1 rfl (runs_move rfl) ?_
        refine RW.op1 rfl (runs_extract rfl rfl) ?_
        refine RW.op1 rfl (runs_extract rfl rfl) ?_
        refine RW.op1 rfl (runs_assign rfl) ?_
        refine RW.op1 rfl (runs_assign rfl) ?_
        refine RW.done ?_
        refine AQ.next ?_
        refine CW.seq ?_
        refine CW.seq ?_
        -- region 12
        generalize numberR a = d at h0 ⊢
        generalize numberR b = e at h0 ⊢
        generalize numberR (t.drop 1) = f at h0 ⊢
        unfold span3 at h0
        refine CW.cut Unit (fun _ w => St w0 w I L) (fun _ => [(2, .int .i64 (d.getD 0)), (3, .int .i64 (e.getD 0)), (4, .int .i64 (f.getD 0)), (67, .bool (decide (¬ (d.isSome = true ∧ e.isSome = true ∧ f.isSome = true ∧ d.getD 0 ≤ e.getD 0 ∧ e.getD 0 < f.getD 0))))]) ?_ ?_
        · -- region 12
          refine CW.region ?_
          refine RW.op1 rfl (runs_move rfl) ?_
          refine RW.op1 rfl (runs_not rfl) ?_
          refine RW.op1 rfl (runs_move rfl) ?_
          refine RW.split (t := 50) rfl (fun hb50 => ?_) (fun hb50 => ?_)
          · have hb50p := hb50
            try simp only [decide_eq_true_eq, decide_eq_false_iff_not] at hb50p
            refine RW.off_guard rfl rfl rfl rfl hb50 ?_
            refine RW.off_guard rfl rfl rfl rfl hb50 ?_
            refine RW.op1 rfl (runs_pick_true rfl hb50 rfl) ?_
            refine RW.op1 rfl (runs_move rfl) ?_
            refine RW.off_guard rfl rfl rfl rfl rfl ?_
            refine RW.off_guard rfl rfl rfl rfl rfl ?_
            refine RW.op1 rfl (runs_pick_true rfl rfl rfl) ?_
            refine RW.op1 rfl (runs_move rfl) ?_
            refine RW.off_guard rfl rfl rfl rfl rfl ?_
            refine RW.off_guard rfl rfl rfl rfl rfl ?_
            refine RW.off_guard rfl rfl rfl rfl rfl ?_
            refine RW.op1 rfl (runs_pick_true rfl rfl rfl) ?_
            refine RW.op1 rfl (runs_move rfl) ?_
            refine RW.off_guard rfl rfl rfl rfl rfl ?_
            refine RW.off_guard rfl rfl rfl rfl rfl ?_
            refine RW.off_guard rfl rfl rfl rfl rfl ?_
            refine RW.op1 rfl (runs_pick_true rfl rfl rfl) ?_
            refine RW.done ?_
            exact AQ.meet () hst ⟨rfl, rfl, rfl, boolN (by simp_all <;> omega), trivial⟩
          · have hb50p := hb50
            try simp only [decide_eq_true_eq, decide_eq_false_iff_not] at hb50p
            refine RW.on_guard rfl rfl rfl rfl hb50 ?_
            refine RW.op1 rfl (runs_move rfl) ?_
            refine RW.on_guard rfl rfl rfl rfl hb50 ?_
            refine RW.op1 rfl (runs_not rfl) ?_
            refine RW.op1 rfl (runs_pick_false rfl hb50 rfl) ?_
            refine RW.op1 rfl (runs_move rfl) ?_
            refine RW.split (t := 54) rfl (fun hb54 => ?_) (fun hb54 => ?_)
            · have hb54p := hb54
              try simp only [decide_eq_true_eq, decide_eq_false_iff_not] at hb54p
              refine RW.off_guard rfl rfl rfl rfl hb54 ?_
              refine RW.off_guard rfl rfl rfl rfl hb54 ?_
              refine RW.op1 rfl (runs_pick_true rfl hb54 rfl) ?_
              refine RW.op1 rfl (runs_move rfl) ?_
              refine RW.off_guard rfl rfl rfl rfl rfl ?_
              refine RW.off_guard rfl rfl rfl rfl rfl ?_
              refine RW.off_guard rfl rfl rfl rfl rfl ?_
              refine RW.op1 rfl (runs_pick_true rfl rfl rfl) ?_
              refine RW.op1 rfl (runs_move rfl) ?_
              refine RW.off_guard rfl rfl rfl rfl rfl ?_
              refine RW.off_guard rfl rfl rfl rfl rfl ?_
              refine RW.off_guard rfl rfl rfl rfl rfl ?_
              refine RW.op1 rfl (runs_pick_true rfl rfl rfl) ?_
              refine RW.done ?_
              exact AQ.meet () hst ⟨rfl, rfl, rfl, boolN (by simp_all <;> omega), trivial⟩
            · have hb54p := hb54
              try simp only [decide_eq_true_eq, decide_eq_false_iff_not] at hb54p
              refine RW.on_guard rfl rfl rfl rfl hb54 ?_
              refine RW.op1 rfl (runs_move rfl) ?_
              refine RW.on_guard rfl rfl rfl rfl hb54 ?_
              refine RW.op1 rfl (runs_not rfl) ?_
              refine RW.op1 rfl (runs_pick_false rfl hb54 rfl) ?_
              refine RW.op1 rfl (runs_move rfl) ?_
              refine RW.split (t := 58) rfl (fun hb58 => ?_) (fun hb58 => ?_)
              · have hb58p := hb58
                try simp only [decide_eq_true_eq, decide_eq_false_iff_not] at hb58p
                refine RW.off_guard rfl rfl rfl rfl hb58 ?_
                refine RW.off_guard rfl rfl rfl rfl hb58 ?_
                refine RW.off_guard rfl rfl rfl rfl hb58 ?_
                refine RW.op1 rfl (runs_pick_true rfl hb58 rfl) ?_
                refine RW.op1 rfl (runs_move rfl) ?_
                refine RW.off_guard rfl rfl rfl rfl rfl ?_
                refine RW.off_guard rfl rfl rfl rfl rfl ?_
                refine RW.off_guard rfl rfl rfl rfl rfl ?_
                refine RW.op1 rfl (runs_pick_true rfl rfl rfl) ?_
                refine RW.done ?_
                exact AQ.meet () hst ⟨rfl, rfl, rfl, boolN (by simp_all <;> omega), trivial⟩
              · have hb58p := hb58
                try simp only [decide_eq_true_eq, decide_eq_false_iff_not] at hb58p
                refine RW.on_guard rfl rfl rfl rfl hb58 ?_
                refine RW.op1 rfl (runs_move rfl) ?_
                refine RW.on_guard rfl rfl rfl rfl hb58 ?_
                refine RW.op1 rfl (runs_move rfl) ?_
                refine RW.on_guard rfl rfl rfl rfl hb58 ?_
                refine RW.op1 rfl (runs_gtr rfl rfl) ?_
                refine RW.op1 rfl (runs_pick_false rfl hb58 rfl) ?_
                refine RW.op1 rfl (runs_move rfl) ?_
                refine RW.split (t := 63) rfl (fun hb63 => ?_) (fun hb63 => ?_)
                · have hb63p := hb63
                  try simp only [decide_eq_true_eq, decide_eq_false_iff_not] at hb63p
                  refine RW.off_guard rfl rfl rfl rfl hb63 ?_
                  refine RW.off_guard rfl rfl rfl rfl hb63 ?_
                  refine RW.off_guard rfl rfl rfl rfl hb63 ?_
                  refine RW.op1 rfl (runs_pick_true rfl hb63 rfl) ?_
                  refine RW.done ?_
                  exact AQ.meet () hst ⟨rfl, rfl, rfl, boolN (by simp_all <;> omega), trivial⟩
                · have hb63p := hb63
                  try simp only [decide_eq_true_eq, decide_eq_false_iff_not] at hb63p
                  refine RW.on_guard rfl rfl rfl rfl hb63 ?_
                  refine RW.op1 rfl (runs_move rfl) ?_
                  refine RW.on_guard rfl rfl rfl rfl hb63 ?_
                  refine RW.op1 rfl (runs_move rfl) ?_
                  refine RW.on_guard rfl rfl rfl rfl hb63 ?_
                  refine RW.op1 rfl (runs_geq rfl rfl) ?_
                  refine RW.op1 rfl (runs_pick_false rfl hb63 rfl) ?_
                  refine RW.done ?_
                  exact AQ.meet () hst ⟨rfl, rfl, rfl, boolN (by simp_all <;> omega), trivial⟩
        · rintro _ w hstn
          clear hst
          have hst := hstn
          clear hstn
          refine AQ.next ?_
          refine CW.cond rfl (fun hc67 => ?_) (fun hc67 => ?_)
          · have hcb67 := hc67
            try simp only [decide_eq_true_eq, decide_eq_false_iff_not] at hc67
            refine CW.seq ?_
            -- region 13
            refine CW.region ?_
            refine RW.op1 rfl (runs_assign rfl) ?_
            refine RW.op1 rfl (runs_assign rfl) ?_
            refine RW.op1 rfl (runs_assign rfl) ?_
            refine RW.op1 rfl (runs_assign rfl) ?_
            refine RW.done ?_
            refine AQ.next ?_
            refine CW.ret ?_
            refine AQ.past_ret ?_
            refine AQ.retL (rs := [.tmp 2, .tmp 3, .tmp 4, .tmp 5]) (vs := [_, _, _, _]) rfl ⟨rfl, rfl, rfl, rfl, trivial⟩ (by simp) ?_
            rw [if_neg (by simpa using hc67)] at h0
            rw [h0]
            exact ⟨rfl, hst⟩
          · have hcb67 := hc67
            try simp only [decide_eq_true_eq, decide_eq_false_iff_not] at hc67
            refine CW.skip ?_
            refine AQ.next ?_
            refine CW.seq ?_
            -- region 14
            refine CW.region ?_
            refine RW.op1 rfl (runs_move rfl) ?_
            refine RW.op1 rfl (runs_move rfl) ?_
            refine RW.op1 rfl (runs_move rfl) ?_
            refine RW.op1 rfl (runs_assign rfl) ?_
            refine RW.op1 rfl (runs_assign rfl) ?_
            refine RW.op1 rfl (runs_assign rfl) ?_
            refine RW.op1 rfl (runs_assign rfl) ?_
            refine RW.done ?_
            refine AQ.next ?_
            refine CW.ret ?_
            refine AQ.retL (rs := [.tmp 2, .tmp 3, .tmp 4, .tmp 5]) (vs := [_, _, _, _]) rfl ⟨rfl, rfl, rfl, rfl, trivial⟩ (by simp) ?_
            rw [if_pos (by simpa using hc67)] at h0
            rw [h0]
            exact ⟨rfl, hst⟩
theorem refSpan_spec {w0 w : World} {I : Imm} {L : Own} (hst : St w0 w I L) (s : ByteArray) (hs : s.size ≤ 9223372036854775807) :
    Calls Tryd.prog 15 #[.string s] w fun e w' => e = .returned (.tuple #[.int .i64 (spanR s).1, .int .i64 (spanR s).2.1, .int .i64 (spanR s).2.2.1, .bool (spanR s).2.2.2]) ∧ St w0 w' I L := by
  have h := refSpan0_spec hst s hs
  rw [span_law] at h
  exact h
theorem span_ord (s : ByteArray) : (spanR s).2.2.2 = true → (spanR s).1 ≤ (spanR s).2.1 := by
  unfold spanR
  split
  · rename_i h
    intro _
    unfold SpanOk at h
    exact h.2.2.2.2.2.2.1
  · intro h
    cases h
def refN (hs : List HRow) (body : ByteArray) : Int := if (getH clenS hs).2 = true then (numberR (getH clenS hs).1.toList).getD 0 else (body.size : Int)
theorem refN_ok {hs : List HRow} {body : ByteArray} (h : (sizeR hs body).2 = true) : refN hs body = (sizeR hs body).1 := by
  unfold sizeR refN at *
  cases hg : (getH clenS hs).2 <;> simp
theorem refN_no {hs : List HRow} {body : ByteArray} (h : (sizeR hs body).2 = false) : refN hs body = 0 := by
  unfold sizeR refN at *
  cases hg : (getH clenS hs).2
  · rw [hg] at h
    simp at h
  · rw [hg] at h
    simp only [Bool.true_eq_false, if_false, if_true] at h ⊢
    rw [show numberR (getH clenS hs).1.toList = none by simpa using h]
    rfl
theorem refN_rng (hs : List HRow) (body : ByteArray) : 0 ≤ refN hs body := by
  unfold refN
  split
  · exact (number_rng _).1
  · omega
def FitR (code : Int) (hs : List HRow) (body : ByteArray) (got : Int) (tag : ByteArray) : Prop :=
  code = 206 ∧ (tag.toList == ([] : List UInt8)) = false ∧ ((tagR hs).toList == tag.toList) = true ∧ (spanR (getH cranS hs).1).2.2.2 = true ∧ (spanR (getH cranS hs).1).1 = got ∧ (spanR (getH cranS hs).1).2.1 = (spanR (getH cranS hs).1).2.2.1 - 1 ∧ (spanR (getH cranS hs).1).2.1 - (spanR (getH cranS hs).1).1 + 1 = refN hs body
instance (code : Int) (hs : List HRow) (body : ByteArray) (got : Int) (tag : ByteArray) : Decidable (FitR code hs body got tag) := by unfold FitR; infer_instance
theorem fit_law (code : Int) (hs : List HRow) (body : ByteArray) (got : Int) (tag : ByteArray) : FitR code hs body got tag ↔ FitOk code hs body got tag := by
  unfold FitR FitOk
  constructor
  · rintro ⟨h1, h2, h3, h4, h5, h6, h7⟩
    have h8 := span_ord _ h4
    have h9 : (sizeR hs body).2 = true := by
      cases h : (sizeR hs body).2
      · have := refN_no h; omega
      · rfl
    exact ⟨h1, h2, h3, h4, h9, h5, h6, by rw [← refN_ok h9]; omega⟩
  · rintro ⟨h1, h2, h3, h4, h9, h5, h6, h7⟩
    exact ⟨h1, h2, h3, h4, h5, h6, by rw [refN_ok h9]; omega⟩
set_option maxRecDepth 100000 in
set_option maxHeartbeats 1000000 in
theorem refFits_spec {w0 w : World} {I : Imm} {L : Own} (hst : St w0 w I L) (code : Int) (cut : Bool) {vh : Value} {hs : List HRow} (body : ByteArray) (hv : RdH I vh hs) (hok : HSm hs) (got : Int) (tag : ByteArray) :
    Calls Tryd.prog 19 #[.agg #[.int .i64 code, vh, .string body, .bool cut], .int .i64 got, .string tag] w fun e w' => ∃ I', Imm.le I I' ∧ e = .returned (.tuple #[.int .i64 (fitsR code hs body got tag).1, .bool (fitsR code hs body got tag).2]) ∧ St w0 w' I' L := by
  obtain ⟨hA, hcap, hvh⟩ : ∃ A c, vh = .slice A hs.length c := by obtain ⟨_, _, A, c, e, _⟩ := hv; exact ⟨A, c, e⟩
  subst hvh
  have hsr := span_rng (getH cranS hs).1
  have hok1 := fun r hr => (hok.names r hr)
  have hf := fit_law code hs body got tag
  refine enter Tryd.func19 rfl (N := 83) rfl rfl ?_
  simp only [List.zipIdx_cons, List.zipIdx_nil, List.map_cons, List.map_nil, Nat.zero_add, Nat.reduceAdd]
  have hle := Imm.le.refl I
  refine CW.seq ?_
  -- region 0
  refine CW.region ?_
  refine RW.opE rfl (runs_box rfl hst) ?_
  rintro _ w ⟨b1, rfl, hstn⟩
  clear hst
  have hst := hstn
  clear hstn
  refine RW.op1 rfl (runs_assign rfl) ?_
  refine RW.op1 rfl (runs_assign rfl) ?_
  refine RW.done ?_
  refine AQ.next ?_
  refine CW.seq ?_
  -- region 1
  refine CW.region ?_
  first
    | refine RW.op1 rfl (runs_fieldAddr0 rfl Tryd.underlying40 rfl ti31 (by decide)) ?_
    | refine RW.op1 rfl (runs_fieldAddr rfl Tryd.underlying40 rfl ti31 (by decide)) ?_
  first
    | refine RW.op1 rfl (runs_load1 sc31 rfl (hst.cell_own (k := 0) rfl rfl)) ?_
    | refine RW.op1 rfl (runs_load1 sc31 rfl (hst.cell_own (k := 1) rfl rfl)) ?_
    | refine RW.op1 rfl (runs_load1 sc31 rfl (hst.cell_own (k := 2) rfl rfl)) ?_
  refine RW.call rfl call32 rfl rfl (refGet_spec hst cranS (by decide) hv hok.names hok.2) ?_
  rintro e w ⟨I2, hI2, rfl, hstn⟩
  clear hst
  have hst := hstn
  clear hstn
  replace hv := hv.mono hI2
  replace hle := hle.trans hI2
  refine ⟨_, rfl, ?_⟩
  refine RW.op1 rfl (runs_move rfl) ?_
  refine RW.op1 rfl (runs_extract rfl rfl) ?_
  refine RW.op1 rfl (runs_extract rfl rfl) ?_
  refine RW.op1 rfl (runs_assign rfl) ?_
  refine RW.op1 rfl (runs_assign rfl) ?_
  refine RW.done ?_
  refine AQ.next ?_
  refine CW.seq ?_
  -- region 2
  refine CW.region ?_
  refine RW.op1 rfl (runs_move rfl) ?_
  refine RW.call rfl call15 rfl rfl (refSpan_spec hst (getH cranS hs).1 (hok.val cranS)) ?_
  rintro e w ⟨rfl, hstn⟩
  clear hst
  have hst := hstn
  clear hstn
  refine ⟨_, rfl, ?_⟩
  refine RW.op1 rfl (runs_move rfl) ?_
  refine RW.op1 rfl (runs_extract rfl rfl) ?_
  refine RW.op1 rfl (runs_extract rfl rfl) ?_
  refine RW.op1 rfl (runs_extract rfl rfl) ?_
  refine RW.op1 rfl (runs_extract rfl rfl) ?_
  refine RW.op1 rfl (runs_assign rfl) ?_
  refine RW.op1 rfl (runs_assign rfl) ?_
  refine RW.op1 rfl (runs_assign rfl) ?_
  refine RW.op1 rfl (runs_assign rfl) ?_
  refine RW.done ?_
  refine AQ.next ?_
  refine CW.seq ?_
  -- region 3
  refine CW.region ?_
  first
    | refine RW.op1 rfl (runs_fieldAddr0 rfl Tryd.underlying40 rfl ti9 (by decide)) ?_
    | refine RW.op1 rfl (runs_fieldAddr rfl Tryd.underlying40 rfl ti9 (by decide)) ?_
  first
    | refine RW.op1 rfl (runs_load1 sc9 rfl (hst.cell_own (k := 0) rfl rfl)) ?_
    | refine RW.op1 rfl (runs_load1 sc9 rfl (hst.cell_own (k := 1) rfl rfl)) ?_
    | refine RW.op1 rfl (runs_load1 sc9 rfl (hst.cell_own (k := 2) rfl rfl)) ?_
  refine RW.op1 rfl (runs_lenS Tryd.underlying9 rfl) ?_
  refine RW.op1 rfl (runs_assign rfl) ?_
  refine RW.done ?_
  refine AQ.next ?_
  refine CW.seq ?_
  refine CW.seq ?_
  -- region 4
  refine CW.region ?_
  first
    | refine RW.op1 rfl (runs_fieldAddr0 rfl Tryd.underlying40 rfl ti31 (by decide)) ?_
    | refine RW.op1 rfl (runs_fieldAddr rfl Tryd.underlying40 rfl ti31 (by decide)) ?_
  first
    | refine RW.op1 rfl (runs_load1 sc31 rfl (hst.cell_own (k := 0) rfl rfl)) ?_
    | refine RW.op1 rfl (runs_load1 sc31 rfl (hst.cell_own (k := 1) rfl rfl)) ?_
    | refine RW.op1 rfl (runs_load1 sc31 rfl (hst.cell_own (k := 2) rfl rfl)) ?_
  refine RW.call rfl call32 rfl rfl (refGet_spec hst clenS (by decide) hv hok.names hok.2) ?_
  rintro e w ⟨I4, hI4, rfl, hstn⟩
  clear hst
  have hst := hstn
  clear hstn
  replace hv := hv.mono hI4
  replace hle := hle.trans hI4
  refine ⟨_, rfl, ?_⟩
  refine RW.op1 rfl (runs_move rfl) ?_
  refine RW.op1 rfl (runs_extract rfl rfl) ?_
  refine RW.op1 rfl (runs_extract rfl rfl) ?_
  refine RW.op1 rfl (runs_assign rfl) ?_
  refine RW.op1 rfl (runs_assign rfl) ?_
  refine RW.done ?_
  refine AQ.next ?_
  refine CW.seq ?_
  -- region 5
  refine CW.region ?_
  refine RW.op1 rfl (runs_move rfl) ?_
  refine RW.done ?_
  refine AQ.next ?_
  refine CW.cut Unit (fun _ w => St w0 w I4 ((b1, .cells (Value.agg #[.int .i64 code, .slice hA hs.length hcap, .string body, .bool cut]).cells 40) :: L)) (fun _ => [(1, .int .i64 got), (2, .string tag), (3, .pointer (some ⟨b1, 0, none⟩)), (10, .int .i64 (spanR (getH cranS hs).1).1), (11, .int .i64 (spanR (getH cranS hs).1).2.1), (12, .int .i64 (spanR (getH cranS hs).1).2.2.1), (13, .bool (spanR (getH cranS hs).1).2.2.2), (14, .int .i64 (refN hs body))]) ?_ ?_
  · refine CW.cond rfl (fun hc39 => ?_) (fun hc39 => ?_)
    · have hcb39 := hc39
      try simp only [decide_eq_true_eq, decide_eq_false_iff_not] at hc39
      -- region 6
      refine CW.region ?_
      refine RW.op1 rfl (runs_move rfl) ?_
      refine RW.call rfl call31 rfl rfl (figures_spec hst (getH clenS hs).1 (by have := hok.val clenS; omega)) ?_
      rintro e w ⟨rfl, hstn⟩
      clear hst
      have hst := hstn
      clear hstn
      refine ⟨_, rfl, ?_⟩
      refine RW.op1 rfl (runs_move rfl) ?_
      refine RW.op1 rfl (runs_extract rfl rfl) ?_
      refine RW.op1 rfl (runs_extract rfl rfl) ?_
      refine RW.op1 rfl (runs_assign rfl) ?_
      refine RW.done ?_
      first
        | exact AQ.meet () hst ⟨rfl, rfl, rfl, rfl, rfl, rfl, rfl, (by unfold refN; rw [if_pos hc39]; rfl), trivial⟩
        | exact AQ.meet () hst ⟨rfl, rfl, rfl, rfl, rfl, rfl, rfl, (by unfold refN; rw [if_neg (by simpa using hc39)]; rfl), trivial⟩
    · have hcb39 := hc39
      try simp only [decide_eq_true_eq, decide_eq_false_iff_not] at hc39
      refine CW.skip ?_
      first
        | exact AQ.meet () hst ⟨rfl, rfl, rfl, rfl, rfl, rfl, rfl, (by unfold refN; rw [if_pos hc39]; rfl), trivial⟩
        | exact AQ.meet () hst ⟨rfl, rfl, rfl, rfl, rfl, rfl, rfl, (by unfold refN; rw [if_neg (by simpa using hc39)]; rfl), trivial⟩
  · rintro _ w hstn
    clear hst
    have hst := hstn
    clear hstn
    refine AQ.next ?_
    refine CW.seq ?_
    refine CW.seq ?_
    -- region 7
    refine CW.cut Imm (fun J w => I.le J ∧ St w0 w J L) (fun _ => [(12, .int .i64 (spanR (getH cranS hs).1).2.2.1), (81, .bool (decide (¬ FitR code hs body got tag)))]) ?_ ?_
    · -- region 7
      refine CW.region ?_
      first
        | refine RW.op1 rfl (runs_fieldAddr0 rfl Tryd.underlying40 rfl ti3 (by decide)) ?_
        | refine RW.op1 rfl (runs_fieldAddr rfl Tryd.underlying40 rfl ti3 (by decide)) ?_
      first
        | refine RW.op1 rfl (runs_load1 sc3 rfl (hst.cell_own (k := 0) rfl rfl)) ?_
        | refine RW.op1 rfl (runs_load1 sc3 rfl (hst.cell_own (k := 1) rfl rfl)) ?_
        | refine RW.op1 rfl (runs_load1 sc3 rfl (hst.cell_own (k := 2) rfl rfl)) ?_
      refine RW.op1 rfl (runs_neI rfl rfl) ?_
      refine RW.op1 rfl (runs_move rfl) ?_
      refine RW.split (t := 48) rfl (fun hb48 => ?_) (fun hb48 => ?_)
      · have hb48p := hb48
        try simp only [decide_eq_true_eq, decide_eq_false_iff_not] at hb48p
        refine RW.off_guard rfl rfl rfl rfl hb48 ?_
        refine RW.off_guard rfl rfl rfl rfl hb48 ?_
        refine RW.op1 rfl (runs_pick_true rfl hb48 rfl) ?_
        refine RW.op1 rfl (runs_move rfl) ?_
        refine RW.off_guard rfl rfl rfl rfl rfl ?_
        refine RW.off_guard rfl rfl rfl rfl rfl ?_
        refine RW.off_guard rfl rfl rfl rfl rfl ?_
        refine RW.off_guard rfl rfl rfl rfl rfl ?_
        refine RW.off_guard rfl rfl rfl rfl rfl ?_
        refine RW.op1 rfl (runs_pick_true rfl rfl rfl) ?_
        refine RW.op1 rfl (runs_move rfl) ?_
        refine RW.off_guard rfl rfl rfl rfl rfl ?_
        refine RW.off_guard rfl rfl rfl rfl rfl ?_
        refine RW.op1 rfl (runs_pick_true rfl rfl rfl) ?_
        refine RW.op1 rfl (runs_move rfl) ?_
        refine RW.off_guard rfl rfl rfl rfl rfl ?_
        refine RW.off_guard rfl rfl rfl rfl rfl ?_
        refine RW.off_guard rfl rfl rfl rfl rfl ?_
        refine RW.op1 rfl (runs_pick_true rfl rfl rfl) ?_
        refine RW.op1 rfl (runs_move rfl) ?_
        refine RW.off_guard rfl rfl rfl rfl rfl ?_
        refine RW.off_guard rfl rfl rfl rfl rfl ?_
        refine RW.off_guard rfl rfl rfl rfl rfl ?_
        refine RW.off_guard rfl rfl rfl rfl rfl ?_
        refine RW.op1 rfl (runs_pick_true rfl rfl rfl) ?_
        refine RW.op1 rfl (runs_move rfl) ?_
        refine RW.off_guard rfl rfl rfl rfl rfl ?_
        refine RW.off_guard rfl rfl rfl rfl rfl ?_
        refine RW.off_guard rfl rfl rfl rfl rfl ?_
        refine RW.off_guard rfl rfl rfl rfl rfl ?_
        refine RW.off_guard rfl rfl rfl rfl rfl ?_
        refine RW.off_guard rfl rfl rfl rfl rfl ?_
        refine RW.op1 rfl (runs_pick_true rfl rfl rfl) ?_
        refine RW.done ?_
        exact AQ.meet _ ⟨hle, hst.drop1⟩ ⟨rfl, boolN (by unfold FitR; simp_all [emptyL] <;> omega), trivial⟩
      · have hb48p := hb48
        try simp only [decide_eq_true_eq, decide_eq_false_iff_not] at hb48p
        refine RW.on_guard rfl rfl rfl rfl hb48 ?_
        refine RW.op1 rfl (runs_move rfl) ?_
        refine RW.on_guard rfl rfl rfl rfl hb48 ?_
        refine RW.op1 rfl (runs_eqS rfl rfl) ?_
        refine RW.op1 rfl (runs_pick_false rfl hb48 rfl) ?_
        refine RW.op1 rfl (runs_move rfl) ?_
        refine RW.split (t := 52) rfl (fun hb52 => ?_) (fun hb52 => ?_)
        · have hb52p := hb52
          try simp only [decide_eq_true_eq, decide_eq_false_iff_not] at hb52p
          refine RW.off_guard rfl rfl rfl rfl hb52 ?_
          refine RW.off_guard rfl rfl rfl rfl hb52 ?_
          refine RW.off_guard rfl rfl rfl rfl hb52 ?_
          refine RW.off_guard rfl rfl rfl rfl hb52 ?_
          refine RW.off_guard rfl rfl rfl rfl hb52 ?_
          refine RW.op1 rfl (runs_pick_true rfl hb52 rfl) ?_
          refine RW.op1 rfl (runs_move rfl) ?_
          refine RW.off_guard rfl rfl rfl rfl rfl ?_
          refine RW.off_guard rfl rfl rfl rfl rfl ?_
          refine RW.op1 rfl (runs_pick_true rfl rfl rfl) ?_
          refine RW.op1 rfl (runs_move rfl) ?_
          refine RW.off_guard rfl rfl rfl rfl rfl ?_
          refine RW.off_guard rfl rfl rfl rfl rfl ?_
          refine RW.off_guard rfl rfl rfl rfl rfl ?_
          refine RW.op1 rfl (runs_pick_true rfl rfl rfl) ?_
          refine RW.op1 rfl (runs_move rfl) ?_
          refine RW.off_guard rfl rfl rfl rfl rfl ?_
          refine RW.off_guard rfl rfl rfl rfl rfl ?_
          refine RW.off_guard rfl rfl rfl rfl rfl ?_
          refine RW.off_guard rfl rfl rfl rfl rfl ?_
          refine RW.op1 rfl (runs_pick_true rfl rfl rfl) ?_
          refine RW.op1 rfl (runs_move rfl) ?_
          refine RW.off_guard rfl rfl rfl rfl rfl ?_
          refine RW.off_guard rfl rfl rfl rfl rfl ?_
          refine RW.off_guard rfl rfl rfl rfl rfl ?_
          refine RW.off_guard rfl rfl rfl rfl rfl ?_
          refine RW.off_guard rfl rfl rfl rfl rfl ?_
          refine RW.off_guard rfl rfl rfl rfl rfl ?_
          refine RW.op1 rfl (runs_pick_true rfl rfl rfl) ?_
          refine RW.done ?_
          exact AQ.meet _ ⟨hle, hst.drop1⟩ ⟨rfl, boolN (by unfold FitR; simp_all [emptyL] <;> omega), trivial⟩
        · have hb52p := hb52
          try simp only [decide_eq_true_eq, decide_eq_false_iff_not] at hb52p
          refine RW.on_guard rfl rfl rfl rfl hb52 ?_
          first
            | refine RW.op1 rfl (runs_fieldAddr0 rfl Tryd.underlying40 rfl ti31 (by decide)) ?_
            | refine RW.op1 rfl (runs_fieldAddr rfl Tryd.underlying40 rfl ti31 (by decide)) ?_
          refine RW.on_guard rfl rfl rfl rfl hb52 ?_
          first
            | refine RW.op1 rfl (runs_load1 sc31 rfl (hst.cell_own (k := 0) rfl rfl)) ?_
            | refine RW.op1 rfl (runs_load1 sc31 rfl (hst.cell_own (k := 1) rfl rfl)) ?_
            | refine RW.op1 rfl (runs_load1 sc31 rfl (hst.cell_own (k := 2) rfl rfl)) ?_
          refine RW.on_guard rfl rfl rfl rfl hb52 ?_
          refine RW.call rfl call16 rfl rfl (refTag_spec hst hv hok.names (by have := hok.val etagS; omega) hok.2) ?_
          rintro e w ⟨I6, hI6, rfl, hstn⟩
          clear hst
          have hst := hstn
          clear hstn
          replace hv := hv.mono hI6
          replace hle := hle.trans hI6
          refine ⟨_, rfl, ?_⟩
          refine RW.on_guard rfl rfl rfl rfl hb52 ?_
          refine RW.op1 rfl (runs_move rfl) ?_
          refine RW.on_guard rfl rfl rfl rfl hb52 ?_
          refine RW.op1 rfl (runs_neS rfl rfl) ?_
          refine RW.op1 rfl (runs_pick_false rfl hb52 rfl) ?_
          refine RW.op1 rfl (runs_move rfl) ?_
          refine RW.split (t := 59) rfl (fun hb59 => ?_) (fun hb59 => ?_)
          · have hb59p := hb59
            try simp only [decide_eq_true_eq, decide_eq_false_iff_not] at hb59p
            refine RW.off_guard rfl rfl rfl rfl hb59 ?_
            refine RW.off_guard rfl rfl rfl rfl hb59 ?_
            refine RW.op1 rfl (runs_pick_true rfl hb59 rfl) ?_
            refine RW.op1 rfl (runs_move rfl) ?_
            refine RW.off_guard rfl rfl rfl rfl rfl ?_
            refine RW.off_guard rfl rfl rfl rfl rfl ?_
            refine RW.off_guard rfl rfl rfl rfl rfl ?_
            refine RW.op1 rfl (runs_pick_true rfl rfl rfl) ?_
            refine RW.op1 rfl (runs_move rfl) ?_
            refine RW.off_guard rfl rfl rfl rfl rfl ?_
            refine RW.off_guard rfl rfl rfl rfl rfl ?_
            refine RW.off_guard rfl rfl rfl rfl rfl ?_
            refine RW.off_guard rfl rfl rfl rfl rfl ?_
            refine RW.op1 rfl (runs_pick_true rfl rfl rfl) ?_
            refine RW.op1 rfl (runs_move rfl) ?_
            refine RW.off_guard rfl rfl rfl rfl rfl ?_
            refine RW.off_guard rfl rfl rfl rfl rfl ?_
            refine RW.off_guard rfl rfl rfl rfl rfl ?_
            refine RW.off_guard rfl rfl rfl rfl rfl ?_
            refine RW.off_guard rfl rfl rfl rfl rfl ?_
            refine RW.off_guard rfl rfl rfl rfl rfl ?_
            refine RW.op1 rfl (runs_pick_true rfl rfl rfl) ?_
            refine RW.done ?_
            exact AQ.meet _ ⟨hle, hst.drop1⟩ ⟨rfl, boolN (by unfold FitR; simp_all [emptyL] <;> omega), trivial⟩
          · have hb59p := hb59
            try simp only [decide_eq_true_eq, decide_eq_false_iff_not] at hb59p
            refine RW.on_guard rfl rfl rfl rfl hb59 ?_
            refine RW.op1 rfl (runs_move rfl) ?_
            refine RW.on_guard rfl rfl rfl rfl hb59 ?_
            refine RW.op1 rfl (runs_not rfl) ?_
            refine RW.op1 rfl (runs_pick_false rfl hb59 rfl) ?_
            refine RW.op1 rfl (runs_move rfl) ?_
            refine RW.split (t := 63) rfl (fun hb63 => ?_) (fun hb63 => ?_)
            · have hb63p := hb63
              try simp only [decide_eq_true_eq, decide_eq_false_iff_not] at hb63p
              refine RW.off_guard rfl rfl rfl rfl hb63 ?_
              refine RW.off_guard rfl rfl rfl rfl hb63 ?_
              refine RW.off_guard rfl rfl rfl rfl hb63 ?_
              refine RW.op1 rfl (runs_pick_true rfl hb63 rfl) ?_
              refine RW.op1 rfl (runs_move rfl) ?_
              refine RW.off_guard rfl rfl rfl rfl rfl ?_
              refine RW.off_guard rfl rfl rfl rfl rfl ?_
              refine RW.off_guard rfl rfl rfl rfl rfl ?_
              refine RW.off_guard rfl rfl rfl rfl rfl ?_
              refine RW.op1 rfl (runs_pick_true rfl rfl rfl) ?_
              refine RW.op1 rfl (runs_move rfl) ?_
              refine RW.off_guard rfl rfl rfl rfl rfl ?_
              refine RW.off_guard rfl rfl rfl rfl rfl ?_
              refine RW.off_guard rfl rfl rfl rfl rfl ?_
              refine RW.off_guard rfl rfl rfl rfl rfl ?_
              refine RW.off_guard rfl rfl rfl rfl rfl ?_
              refine RW.off_guard rfl rfl rfl rfl rfl ?_
              refine RW.op1 rfl (runs_pick_true rfl rfl rfl) ?_
              refine RW.done ?_
              exact AQ.meet _ ⟨hle, hst.drop1⟩ ⟨rfl, boolN (by unfold FitR; simp_all [emptyL] <;> omega), trivial⟩
            · have hb63p := hb63
              try simp only [decide_eq_true_eq, decide_eq_false_iff_not] at hb63p
              refine RW.on_guard rfl rfl rfl rfl hb63 ?_
              refine RW.op1 rfl (runs_move rfl) ?_
              refine RW.on_guard rfl rfl rfl rfl hb63 ?_
              refine RW.op1 rfl (runs_move rfl) ?_
              refine RW.on_guard rfl rfl rfl rfl hb63 ?_
              refine RW.op1 rfl (runs_neI rfl rfl) ?_
              refine RW.op1 rfl (runs_pick_false rfl hb63 rfl) ?_
              refine RW.op1 rfl (runs_move rfl) ?_
              refine RW.split (t := 68) rfl (fun hb68 => ?_) (fun hb68 => ?_)
              · have hb68p := hb68
                try simp only [decide_eq_true_eq, decide_eq_false_iff_not] at hb68p
                refine RW.off_guard rfl rfl rfl rfl hb68 ?_
                refine RW.off_guard rfl rfl rfl rfl hb68 ?_
                refine RW.off_guard rfl rfl rfl rfl hb68 ?_
                refine RW.off_guard rfl rfl rfl rfl hb68 ?_
                refine RW.op1 rfl (runs_pick_true rfl hb68 rfl) ?_
                refine RW.op1 rfl (runs_move rfl) ?_
                refine RW.off_guard rfl rfl rfl rfl rfl ?_
                refine RW.off_guard rfl rfl rfl rfl rfl ?_
                refine RW.off_guard rfl rfl rfl rfl rfl ?_
                refine RW.off_guard rfl rfl rfl rfl rfl ?_
                refine RW.off_guard rfl rfl rfl rfl rfl ?_
                refine RW.off_guard rfl rfl rfl rfl rfl ?_
                refine RW.op1 rfl (runs_pick_true rfl rfl rfl) ?_
                refine RW.done ?_
                exact AQ.meet _ ⟨hle, hst.drop1⟩ ⟨rfl, boolN (by unfold FitR; simp_all [emptyL] <;> omega), trivial⟩
              · have hb68p := hb68
                try simp only [decide_eq_true_eq, decide_eq_false_iff_not] at hb68p
                refine RW.on_guard rfl rfl rfl rfl hb68 ?_
                refine RW.op1 rfl (runs_move rfl) ?_
                refine RW.on_guard rfl rfl rfl rfl hb68 ?_
                refine RW.op1 rfl (runs_move rfl) ?_
                refine RW.on_guard rfl rfl rfl rfl hb68 ?_
                refine RW.op1 rfl (runs_sub rfl rfl (by omega)) ?_
                refine RW.on_guard rfl rfl rfl rfl hb68 ?_
                refine RW.op1 rfl (runs_neI rfl rfl) ?_
                refine RW.op1 rfl (runs_pick_false rfl hb68 rfl) ?_
                refine RW.op1 rfl (runs_move rfl) ?_
                refine RW.split (t := 74) rfl (fun hb74 => ?_) (fun hb74 => ?_)
                · have hb74p := hb74
                  try simp only [decide_eq_true_eq, decide_eq_false_iff_not] at hb74p
                  refine RW.off_guard rfl rfl rfl rfl hb74 ?_
                  refine RW.off_guard rfl rfl rfl rfl hb74 ?_
                  refine RW.off_guard rfl rfl rfl rfl hb74 ?_
                  refine RW.off_guard rfl rfl rfl rfl hb74 ?_
                  refine RW.off_guard rfl rfl rfl rfl hb74 ?_
                  refine RW.off_guard rfl rfl rfl rfl hb74 ?_
                  refine RW.op1 rfl (runs_pick_true rfl hb74 rfl) ?_
                  refine RW.done ?_
                  exact AQ.meet _ ⟨hle, hst.drop1⟩ ⟨rfl, boolN (by unfold FitR; simp_all [emptyL] <;> omega), trivial⟩
                · have hb74p := hb74
                  try simp only [decide_eq_true_eq, decide_eq_false_iff_not] at hb74p
                  refine RW.on_guard rfl rfl rfl rfl hb74 ?_
                  refine RW.op1 rfl (runs_move rfl) ?_
                  refine RW.on_guard rfl rfl rfl rfl hb74 ?_
                  refine RW.op1 rfl (runs_move rfl) ?_
                  refine RW.on_guard rfl rfl rfl rfl hb74 ?_
                  refine RW.op1 rfl (runs_sub rfl rfl (by omega)) ?_
                  refine RW.on_guard rfl rfl rfl rfl hb74 ?_
                  refine RW.op1 rfl (runs_add rfl rfl (by omega)) ?_
                  refine RW.on_guard rfl rfl rfl rfl hb74 ?_
                  refine RW.op1 rfl (runs_move rfl) ?_
                  refine RW.on_guard rfl rfl rfl rfl hb74 ?_
                  refine RW.op1 rfl (runs_neI rfl rfl) ?_
                  refine RW.op1 rfl (runs_pick_false rfl hb74 rfl) ?_
                  refine RW.done ?_
                  exact AQ.meet _ ⟨hle, hst.drop1⟩ ⟨rfl, boolN (by unfold FitR; simp_all [emptyL] <;> omega), trivial⟩
    · clear hle hst
      rintro J w ⟨hle, hst⟩
      refine AQ.next ?_
      refine CW.cond rfl (fun hc81 => ?_) (fun hc81 => ?_)
      · have hcb81 := hc81
        try simp only [decide_eq_true_eq, decide_eq_false_iff_not] at hc81
        refine CW.seq ?_
        -- region 8
        refine CW.region ?_
        refine RW.op1 rfl (runs_assign rfl) ?_
        refine RW.op1 rfl (runs_assign rfl) ?_
        refine RW.done ?_
        refine AQ.next ?_
        refine CW.ret ?_
        refine AQ.past_ret ?_
        refine AQ.ret2 rfl rfl rfl ?_
        have h0 : fitsR code hs body got tag = (0, false) := if_neg (fun h => by rw [hf] at hc81; simp [h] at hc81)
        rw [h0]
        exact ⟨_, hle, rfl, hst⟩
      · have hcb81 := hc81
        try simp only [decide_eq_true_eq, decide_eq_false_iff_not] at hc81
        refine CW.skip ?_
        refine AQ.next ?_
        refine CW.seq ?_
        -- region 9
        refine CW.region ?_
        refine RW.op1 rfl (runs_move rfl) ?_
        refine RW.op1 rfl (runs_assign rfl) ?_
        refine RW.op1 rfl (runs_assign rfl) ?_
        refine RW.done ?_
        refine AQ.next ?_
        refine CW.ret ?_
        refine AQ.ret2 rfl rfl rfl ?_
        have h0 : fitsR code hs body got tag = ((spanR (getH cranS hs).1).2.2.1, true) := if_pos (hf.1 (by simpa using hc81))
        rw [h0]
        exact ⟨_, hle, rfl, hst⟩
set_option maxRecDepth 100000 in
set_option maxHeartbeats 1000000 in
theorem rangeHeads_spec {w0 w : World} {I : Imm} {L : Own} (hst : St w0 w I L) (got : Int) (hg : got ≤ 9223372036854775807) (tag : ByteArray) :
    Calls Tryd.prog 20 #[.int .i64 got, .string tag] w fun e w' => ∃ I' v, Imm.le I I' ∧ e = .returned v ∧ RdH I' v (rheadsR got tag) ∧ St w0 w' I' L := by
  refine enter Tryd.func20 rfl (N := 19) rfl rfl ?_
  simp only [List.zipIdx_cons, List.zipIdx_nil, List.map_cons, List.map_nil, Nat.zero_add, Nat.reduceAdd]
  have hle := Imm.le.refl I
  refine CW.seq ?_
  -- region 0
  refine CW.region ?_
  refine RW.op1 rfl (runs_assign rfl) ?_
  refine RW.done ?_
  refine AQ.next ?_
  refine CW.seq ?_
  refine CW.seq ?_
  -- region 1
  refine CW.region ?_
  refine RW.op1 rfl (runs_move rfl) ?_
  refine RW.op1 rfl (runs_lss rfl rfl) ?_
  refine RW.op1 rfl (runs_move rfl) ?_
  refine RW.split (t := 7) rfl (fun hb7 => ?_) (fun hb7 => ?_)
  · have hb7p := hb7
    try simp only [decide_eq_true_eq, decide_eq_false_iff_not] at hb7p
    skip
    refine RW.off_guard rfl rfl rfl rfl hb7 ?_
    refine RW.off_guard rfl rfl rfl rfl hb7 ?_
    refine RW.op1 rfl (runs_pick_true rfl hb7 rfl) ?_
    refine RW.done ?_
    refine AQ.next ?_
    refine CW.cond_true rfl ?_
    refine CW.seq ?_
    -- region 2
    refine CW.region ?_
    refine RW.op1 rfl (runs_assign rfl) ?_
    refine RW.done ?_
    refine AQ.next ?_
    refine CW.ret ?_
    refine AQ.past_ret ?_
    refine AQ.ret1 rfl rfl ?_
    have h0 : rheadsR got tag = [] := if_pos (.inl hb7p)
    rw [h0]
    exact ⟨_, _, hle, rfl, RdL.nil 2, hst⟩
  · have hb7p := hb7
    try simp only [decide_eq_true_eq, decide_eq_false_iff_not] at hb7p
    have hdr := digits_room (n := got) (by omega) hg
    refine RW.on_guard rfl rfl rfl rfl hb7 ?_
    refine RW.op1 rfl (runs_move rfl) ?_
    refine RW.on_guard rfl rfl rfl rfl hb7 ?_
    refine RW.op1 rfl (runs_eqS rfl rfl) ?_
    refine RW.op1 rfl (runs_pick_false rfl hb7 rfl) ?_
    refine RW.done ?_
    refine AQ.next ?_
    refine CW.cond rfl (fun hc10 => ?_) (fun hc10 => ?_)
    · have hcb10 := hc10
      try simp only [decide_eq_true_eq, decide_eq_false_iff_not] at hc10
      refine CW.seq ?_
      -- region 2
      refine CW.region ?_
      refine RW.op1 rfl (runs_assign rfl) ?_
      refine RW.done ?_
      refine AQ.next ?_
      refine CW.ret ?_
      refine AQ.past_ret ?_
      refine AQ.ret1 rfl rfl ?_
      have h0 : rheadsR got tag = [] := if_pos (.inr (by simpa [emptyL] using hc10))
      rw [h0]
      exact ⟨_, _, hle, rfl, RdL.nil 2, hst⟩
    · have hcb10 := hc10
      try simp only [decide_eq_true_eq, decide_eq_false_iff_not] at hc10
      refine CW.skip ?_
      refine AQ.next ?_
      refine CW.seq ?_
      -- region 3
      refine CW.region ?_
      refine RW.op1 rfl (runs_move rfl) ?_
      refine RW.call rfl call13 rfl rfl (digits_spec hst got (by omega) hg) ?_
      rintro e w ⟨rfl, hstn⟩
      clear hst
      have hst := hstn
      clear hstn
      refine ⟨_, rfl, ?_⟩
      refine RW.op1 rfl (runs_addS (a := bytesE) rfl rfl (by rw [strOfZ]; show 6 + _ ≤ _; omega)) ?_
      refine RW.op1 rfl (runs_addS rfl rfl (by rw [ByteArray.size_append, strOfZ]; show 6 + _ + 1 ≤ _; omega)) ?_
      refine RW.op1 rfl (runs_buildF (cells := [_, _]) bz26 rfl rfl rfl rfl rfl) ?_
      refine RW.op1 rfl (runs_move rfl) ?_
      refine RW.op1 rfl (runs_buildF (cells := [_, _]) bz26 rfl rfl rfl rfl rfl) ?_
      refine RW.opE rfl (runs_litF (xs := [.agg #[_, _], .agg #[_, _]]) Tryd.underlying31 ti26 (by decide) rfl rfl rfl rfl rfl hst (by decide)) ?_
      rintro u2 w ⟨Lv2, hstn, hg2⟩
      clear hst
      have hst := hstn
      clear hstn
      obtain ⟨J2, hJ2, hstn, h2⟩ := Grow.freeze hg2 hst
      clear hst
      have hst := hstn
      clear hstn
      replace hle := hle.trans hJ2
      try simp only [List.nil_append] at h2
      replace h2 : RdH _ u2 [(rangeN, rangeV got), (ifN, tag)] := h2
      have hR := h2
      refine RW.op1 rfl (runs_assign rfl) ?_
      refine RW.done ?_
      refine AQ.next ?_
      refine CW.ret ?_
      refine AQ.ret1 rfl rfl ?_
      have h0 : rheadsR got tag = [(rangeN, rangeV got), (ifN, tag)] := if_neg (by simp_all [emptyL] <;> omega)
      rw [h0]
      exact ⟨_, _, hle, rfl, hR, hst⟩
end Go.Proofs.YtjlkidokkaibiaaDoorX
