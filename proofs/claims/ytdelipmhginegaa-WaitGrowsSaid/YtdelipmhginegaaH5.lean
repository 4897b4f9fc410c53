/- Of any answer whether to try again, and how long to wait: the walk. -/
import Derived.Test.YtdelipmhginegaaT
import Derived.Test.YtdelipmhginegaaH4
namespace Go.Proofs.YtdelipmhginegaaX
set_option linter.unusedVariables false
set_option linter.unusedSimpArgs false
open Go Go.RowKit Go.Proofs

theorem after_nil (t : Int) : afterR t [] = delayR t := by
  have h0 : askedR [] = 0 := by
    unfold askedR getH
    have : (⟨#[]⟩ : ByteArray).toList = [] := by simp
    simp only [List.find?_nil, this]
    rfl
  unfold afterR
  rw [h0]
  have h1 : 1 ≤ delayR t := by unfold delayR; split <;> (repeat' split) <;> omega
  have h2 : (if (16 : Int) < 0 then (16 : Int) else 0) = 0 := by decide
  rw [h2, if_neg (by omega)]
theorem RdH.nil (I : Imm) : RdH I (.slice none 0 0) [] := RdL.nil 2
set_option maxRecDepth 100000 in
set_option maxHeartbeats 1000000 in
theorem refAgain_spec {w0 w : World} {I : Imm} {L : Own} (hst : St w0 w I L) (n : Int) :
    Calls Try.prog 15 #[.int .i64 n] w fun e w' => ∃ I', Imm.le I I' ∧ e = .returned (.bool (decide (n ∈ codesR))) ∧ St w0 w' I' L := by
  refine enter Try.func15 rfl (N := 15) rfl rfl ?_
  simp only [List.zipIdx_cons, List.zipIdx_nil, List.map_cons, List.map_nil, Nat.zero_add, Nat.reduceAdd]
  have hle := Imm.le.refl I
  refine CW.seq ?_
  -- region 0
  refine CW.region ?_
  refine RW.op1 rfl (runs_assign rfl) ?_
  refine RW.done ?_
  refine AQ.next ?_
  refine CW.seq ?_
  refine CW.seq ?_
  -- region 1
  refine CW.region ?_
  refine RW.opE rfl (runs_lit1R Try.underlying22 ti3 (by decide) rfl rfl rfl (by simp [Value.oneCell']) hst) ?_
  rintro u1 w ⟨I1, hI1, hstn, h1⟩
  clear hst
  have hst := hstn
  clear hstn
  replace hle := hle.trans hI1
  have hC : RdI _ u1 codesR := h1
  refine RW.op1 rfl (RdL.len Try.underlying22 rfl hC) ?_
  refine RW.op1 rfl (runs_move rfl) ?_
  refine RW.done ?_
  refine AQ.next ?_
  refine CW.block ?_
  -- loop 1
  refine CW.loop (Nat × Imm × Value) (fun x w => I.le x.2.1 ∧ St w0 w x.2.1 L ∧ RdI x.2.1 x.2.2 codesR ∧ x.1 ≤ 6 ∧ ∀ y ∈ codesR.take x.1, y ≠ n) (fun x => [(0, .int .i64 n), (5, x.2.2), (6, .int .i64 (6 : Nat)), (7, .int .i64 (x.1 : Int))]) (fun x => 6 - x.1) ⟨(0, _, _), ⟨hle, hst, hC, by omega, by simp⟩, ⟨rfl, rfl, rfl, rfl, trivial⟩⟩ ?_
  clear hC hle
  rintro ⟨k, I5, v5⟩ w ⟨hle, hstn, hC, hk, hno⟩
  dsimp only at hle hstn hC hk hno ⊢
  clear hst
  have hst := hstn
  clear hstn
  refine CW.seq ?_
  -- region 2
  refine CW.region ?_
  refine RW.op1 rfl (runs_lss rfl rfl) ?_
  refine RW.done ?_
  refine AQ.next ?_
  refine CW.seq ?_
  refine CW.cond rfl (fun hc8 => ?_) (fun hc8 => ?_)
  · have hcb8 := hc8
    try simp only [decide_eq_true_eq, decide_eq_false_iff_not] at hc8
    have hk1 : k < codesR.length := by show k < 6; omega
    have hig := iat_get hk1
    refine CW.skip ?_
    refine AQ.next ?_
    refine CW.seq ?_
    refine CW.block ?_
    refine CW.seq ?_
    -- region 3
    refine CW.region ?_
    refine RW.op1 rfl (RdL.indexAddr Try.underlying22 ti3 (by decide) rfl rfl hC (by show 0 ≤ (k : Int) ∧ (k : Int) < 6; omega)) ?_
    refine RW.op1 rfl (runs_load1 sc3 rfl (hst.cell_imm (RdI.at hC (by omega) (by show (k : Int) < 6; omega)))) ?_
    refine RW.op1 rfl (runs_assign rfl) ?_
    refine RW.done ?_
    refine AQ.next ?_
    refine CW.seq ?_
    -- region 4
    refine CW.region ?_
    refine RW.op1 rfl (runs_move rfl) ?_
    refine RW.op1 rfl (runs_move rfl) ?_
    refine RW.op1 rfl (runs_eqI rfl rfl) ?_
    refine RW.done ?_
    refine AQ.next ?_
    refine CW.cond rfl (fun hc13 => ?_) (fun hc13 => ?_)
    · have hcb13 := hc13
      try simp only [decide_eq_true_eq, decide_eq_false_iff_not] at hc13
      refine CW.seq ?_
      -- region 5
      refine CW.region ?_
      refine RW.op1 rfl (runs_assign rfl) ?_
      refine RW.done ?_
      refine AQ.next ?_
      refine CW.ret ?_
      refine AQ.block_ret ?_
      refine AQ.past_ret ?_
      refine AQ.past_ret ?_
      refine AQ.block_ret ?_
      refine AQ.past_ret ?_
      refine AQ.ret1 rfl rfl ?_
      exact ⟨_, hle, by rw [decide_eq_true]; rw [← hc13, hig]; exact List.getElem_mem _, hst⟩
    · have hcb13 := hc13
      try simp only [decide_eq_true_eq, decide_eq_false_iff_not] at hc13
      refine CW.skip ?_
      refine AQ.block_normal ?_
      refine AQ.next ?_
      -- region 6
      refine CW.region ?_
      refine RW.op1 rfl (runs_add rfl rfl (by omega)) ?_
      refine RW.op1 rfl (runs_move rfl) ?_
      refine RW.done ?_
      exact AQ.again (x := (k, I5, v5)) (k + 1, _, _) ⟨hle, hst, hC, by omega, all_ne_more hno hk1 (by omega)⟩ ⟨rfl, rfl, rfl, rfl, trivial⟩ (by dsimp only; omega)
  · have hcb8 := hc8
    try simp only [decide_eq_true_eq, decide_eq_false_iff_not] at hc8
    skip
    refine CW.exit ?_
    refine AQ.past_exit ?_
    refine AQ.past_exit ?_
    refine AQ.block_hit ?_
    refine AQ.next ?_
    refine CW.seq ?_
    -- region 7
    refine CW.region ?_
    refine RW.op1 rfl (runs_assign rfl) ?_
    refine RW.done ?_
    refine AQ.next ?_
    refine CW.ret ?_
    refine AQ.ret1 rfl rfl ?_
    rw [List.take_of_length_le (show codesR.length ≤ k by show 6 ≤ k; omega)] at hno
    exact ⟨_, hle, by rw [decide_eq_false (fun h => hno n h rfl)], hst⟩
set_option maxRecDepth 100000 in
set_option maxHeartbeats 1000000 in
theorem wtells_spec {w0 w : World} {I : Imm} {L : Own} (hst : St w0 w I L) (c t : Int) (s : ByteArray) (few : Bool) (hc : i64ok c) (ht : i64ok t) (hs : s.size ≤ 9223372036854775807) :
    Calls Try.prog 5 #[.int .i64 c, .int .i64 t, .string s, .bool few] w fun e w' => e = .returned (.bool true) ∧ ∃ I', I.le I' ∧ St w0 w' I' L := by
  unfold i64ok at hc ht
  refine enter Try.func5 rfl (N := 52) rfl rfl ?_
  simp only [List.zipIdx_cons, List.zipIdx_nil, List.map_cons, List.map_nil, Nat.zero_add, Nat.reduceAdd]
  have hle := Imm.le.refl I
  refine CW.seq ?_
  -- region 0
  refine CW.region ?_
  refine RW.op1 rfl (runs_assign rfl) ?_
  refine RW.done ?_
  refine AQ.next ?_
  refine CW.seq ?_
  refine CW.seq ?_
  -- region 1
  refine CW.region ?_
  refine RW.op1 rfl (runs_move rfl) ?_
  refine RW.done ?_
  refine AQ.next ?_
  refine CW.cut (Int × Int) (fun y w => St w0 w I L) (fun y => [(0, .int .i64 y.1), (1, .int .i64 y.2), (2, .string s)]) ?_ ?_
  · refine CW.cond rfl (fun hc10 => ?_) (fun hc10 => ?_)
    · have hcb10 := hc10
      try simp only [decide_eq_true_eq, decide_eq_false_iff_not] at hc10
      -- region 2
      refine CW.region ?_
      refine RW.op1 rfl (runs_move rfl) ?_
      refine RW.call rfl call8 rfl rfl (within_spec hst (v := c) (n := 120) (by unfold i64ok; omega) (by unfold i64ok; omega)) ?_
      rintro e w ⟨rfl, hstn⟩
      clear hst
      have hst := hstn
      clear hstn
      have hw1 := within_range c 120
      refine ⟨_, rfl, ?_⟩
      refine RW.op1 rfl (runs_add rfl rfl (by omega)) ?_
      refine RW.op1 rfl (runs_move rfl) ?_
      refine RW.call rfl call8 rfl rfl (within_spec hst (v := t) (n := 12) (by unfold i64ok; omega) (by unfold i64ok; omega)) ?_
      rintro e w ⟨rfl, hstn⟩
      clear hst
      have hst := hstn
      clear hstn
      have hw2 := within_range t 12
      refine ⟨_, rfl, ?_⟩
      refine RW.op1 rfl (runs_sub rfl rfl (by omega)) ?_
      refine RW.op1 rfl (runs_assign rfl) ?_
      refine RW.op1 rfl (runs_assign rfl) ?_
      refine RW.done ?_
      exact AQ.meet (_, _) hst ⟨rfl, rfl, rfl, trivial⟩
    · have hcb10 := hc10
      try simp only [decide_eq_true_eq, decide_eq_false_iff_not] at hc10
      refine CW.skip ?_
      exact AQ.meet (_, _) hst ⟨rfl, rfl, rfl, trivial⟩
  · rintro ⟨c, t⟩ w hstn
    clear hst
    have hst := hstn
    clear hstn
    refine AQ.next ?_
    refine CW.seq ?_
    -- region 3
    refine CW.region ?_
    refine RW.op1 rfl (runs_buildF (cells := [_, _]) bz28 rfl rfl rfl rfl rfl) ?_
    refine RW.op1 rfl (runs_move rfl) ?_
    refine RW.op1 rfl (runs_buildF (cells := [_, _]) bz28 rfl rfl rfl rfl rfl) ?_
    refine RW.opE rfl (runs_litF (xs := [.agg #[_, _], .agg #[_, _]]) Try.underlying24 ti28 (by decide) rfl rfl rfl rfl rfl hst (by decide)) ?_
    rintro u3 w ⟨Lv3, hstn, hg3⟩
    clear hst
    have hst := hstn
    clear hstn
    obtain ⟨J3, hJ3, hstn, h3⟩ := Grow.freeze hg3 hst
    clear hst
    have hst := hstn
    clear hstn
    replace hle := hle.trans hJ3
    try simp only [List.nil_append] at h3
    have hok : ∀ r ∈ ([(⟨#[120]⟩, ⟨#[49]⟩), (⟨#[82, 101, 116, 114, 121, 45, 65, 102, 116, 101, 114]⟩, s)] : List HRow), r.1.size ≤ 9223372036854775807 ∧ r.2.size ≤ 9223372036854775807 := by
      intro r hr
      simp only [List.mem_cons, List.not_mem_nil, or_false] at hr
      rcases hr with rfl | rfl
      · exact ⟨by decide, by decide⟩
      · exact ⟨(show (11 : Nat) ≤ 9223372036854775807 by decide), hs⟩
    replace h3 : RdH _ u3 ([(⟨#[120]⟩, ⟨#[49]⟩), (⟨#[82, 101, 116, 114, 121, 45, 65, 102, 116, 101, 114]⟩, s)] : List HRow) := h3
    generalize hhs : ([(⟨#[120]⟩, ⟨#[49]⟩), (⟨#[82, 101, 116, 114, 121, 45, 65, 102, 116, 101, 114]⟩, s)] : List HRow) = hs2 at h3 hok
    have hl2 : hs2.length ≤ 1000000 := by rw [← hhs]; show 2 ≤ 1000000; decide
    have hR := h3
    refine RW.op1 rfl (runs_assign rfl) ?_
    refine RW.done ?_
    refine AQ.next ?_
    refine CW.seq ?_
    -- region 4
    refine CW.region ?_
    refine RW.op1 rfl (runs_move rfl) ?_
    refine RW.call rfl call13 rfl rfl (again_spec hst c) ?_
    rintro e w ⟨I4, hI4, rfl, hstn⟩
    clear hst
    have hst := hstn
    clear hstn
    replace h3 := h3.mono hI4
    replace hR := hR.mono hI4
    replace hle := hle.trans hI4
    refine ⟨_, rfl, ?_⟩
    refine RW.op1 rfl (runs_move rfl) ?_
    refine RW.call rfl call15 rfl rfl (refAgain_spec hst c) ?_
    rintro e w ⟨I5, hI5, rfl, hstn⟩
    clear hst
    have hst := hstn
    clear hstn
    replace h3 := h3.mono hI5
    replace hR := hR.mono hI5
    replace hle := hle.trans hI5
    refine ⟨_, rfl, ?_⟩
    refine RW.op1 rfl (runs_eqB Try.underlying4 rfl rfl) ?_
    refine RW.op1 rfl (runs_move rfl) ?_
    have hk26 := (show (decide (c ∈ codesR) == decide (c ∈ codesR)) = true by simp)
    refine RW.on_guard rfl rfl rfl rfl hk26 ?_
    refine RW.op1 rfl (runs_move rfl) ?_
    refine RW.on_guard rfl rfl rfl rfl hk26 ?_
    refine RW.call rfl call11 rfl rfl (delay_spec hst t) ?_
    rintro e w ⟨rfl, hstn⟩
    clear hst
    have hst := hstn
    clear hstn
    refine ⟨_, rfl, ?_⟩
    refine RW.on_guard rfl rfl rfl rfl hk26 ?_
    refine RW.op1 rfl (runs_move rfl) ?_
    refine RW.on_guard rfl rfl rfl rfl hk26 ?_
    refine RW.call rfl call16 rfl rfl (refDelay_spec hst t) ?_
    rintro e w ⟨rfl, hstn⟩
    clear hst
    have hst := hstn
    clear hstn
    refine ⟨_, rfl, ?_⟩
    refine RW.on_guard rfl rfl rfl rfl hk26 ?_
    refine RW.op1 rfl (runs_eqI rfl rfl) ?_
    refine RW.op1 rfl (runs_pick_true rfl hk26 rfl) ?_
    refine RW.op1 rfl (runs_move rfl) ?_
    have hk33 := (show decide (delayR t = delayR t) = true by simp)
    refine RW.on_guard rfl rfl rfl rfl hk33 ?_
    refine RW.op1 rfl (runs_move rfl) ?_
    refine RW.on_guard rfl rfl rfl rfl hk33 ?_
    refine RW.op1 rfl (runs_move rfl) ?_
    refine RW.on_guard rfl rfl rfl rfl hk33 ?_
    refine RW.call rfl call12 rfl rfl (after_spec hst t hR (fun r h => (hok r h).1) (fun r h => (hok r h).2) hl2) ?_
    rintro e w ⟨I8, hI8, rfl, hstn⟩
    clear hst
    have hst := hstn
    clear hstn
    replace h3 := h3.mono hI8
    replace hR := hR.mono hI8
    replace hle := hle.trans hI8
    refine ⟨_, rfl, ?_⟩
    refine RW.on_guard rfl rfl rfl rfl hk33 ?_
    refine RW.op1 rfl (runs_move rfl) ?_
    refine RW.on_guard rfl rfl rfl rfl hk33 ?_
    refine RW.op1 rfl (runs_move rfl) ?_
    refine RW.on_guard rfl rfl rfl rfl hk33 ?_
    refine RW.call rfl call17 rfl rfl (refAfter_spec hst t hR (fun r h => (hok r h).1) (fun r h => (hok r h).2) hl2) ?_
    rintro e w ⟨I9, hI9, rfl, hstn⟩
    clear hst
    have hst := hstn
    clear hstn
    replace h3 := h3.mono hI9
    replace hR := hR.mono hI9
    replace hle := hle.trans hI9
    refine ⟨_, rfl, ?_⟩
    refine RW.on_guard rfl rfl rfl rfl hk33 ?_
    refine RW.op1 rfl (runs_eqI rfl rfl) ?_
    refine RW.op1 rfl (runs_pick_true rfl hk33 rfl) ?_
    refine RW.op1 rfl (runs_move rfl) ?_
    have hk42 := (show decide (afterR t hs2 = afterR t hs2) = true by simp)
    refine RW.on_guard rfl rfl rfl rfl hk42 ?_
    refine RW.op1 rfl (runs_move rfl) ?_
    refine RW.on_guard rfl rfl rfl rfl hk42 ?_
    refine RW.call rfl call12 rfl rfl (after_spec hst t (RdH.nil _) (by simp) (by simp) (by decide)) ?_
    rintro e w ⟨I10, hI10, rfl, hstn⟩
    clear hst
    have hst := hstn
    clear hstn
    rw [after_nil]
    replace h3 := h3.mono hI10
    replace hR := hR.mono hI10
    replace hle := hle.trans hI10
    refine ⟨_, rfl, ?_⟩
    refine RW.on_guard rfl rfl rfl rfl hk42 ?_
    refine RW.op1 rfl (runs_move rfl) ?_
    refine RW.on_guard rfl rfl rfl rfl hk42 ?_
    refine RW.call rfl call16 rfl rfl (refDelay_spec hst t) ?_
    rintro e w ⟨rfl, hstn⟩
    clear hst
    have hst := hstn
    clear hstn
    refine ⟨_, rfl, ?_⟩
    refine RW.on_guard rfl rfl rfl rfl hk42 ?_
    refine RW.op1 rfl (runs_eqI rfl rfl) ?_
    refine RW.op1 rfl (runs_pick_true rfl hk42 rfl) ?_
    refine RW.op1 rfl (runs_move rfl) ?_
    have hk49 := (show decide (delayR t = delayR t) = true by simp)
    refine RW.on_guard rfl rfl rfl rfl hk49 ?_
    refine RW.call rfl call14 rfl rfl (wakes16_spec hst) ?_
    rintro e w ⟨rfl, I12, hI12, hstn⟩
    clear hst
    have hst := hstn
    clear hstn
    replace h3 := h3.mono hI12
    replace hR := hR.mono hI12
    replace hle := hle.trans hI12
    refine ⟨_, rfl, ?_⟩
    refine RW.op1 rfl (runs_pick_true rfl hk49 rfl) ?_
    refine RW.op1 rfl (runs_assign rfl) ?_
    refine RW.done ?_
    refine AQ.next ?_
    refine CW.ret ?_
    refine AQ.ret1 rfl rfl ?_
    exact ⟨rfl, _, hle, hst⟩
end Go.Proofs.YtdelipmhginegaaX
