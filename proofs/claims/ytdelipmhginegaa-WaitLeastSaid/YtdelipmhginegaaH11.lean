/- A wait is at least its own, at most the longest: the walk. -/
import Derived.Test.YtdelipmhginegaaT
import Derived.Test.YtdelipmhginegaaH10
namespace Go.Proofs.YtdelipmhginegaaX
set_option linter.unusedVariables false
set_option linter.unusedSimpArgs false
open Go Go.RowKit Go.Proofs

theorem cap_least (t n : Int) : delayR t ≤ capR t n := by unfold capR; split <;> omega
theorem cap_most (t n : Int) : capR t n ≤ 16 := by
  have := delay_range t
  unfold capR
  (repeat' split) <;> omega
theorem cap_mono (t : Int) {m n : Int} (h : m ≤ n) : capR t m ≤ capR t n := by
  unfold capR
  (repeat' split) <;> omega
theorem after_z {t : Int} {na nb : Nat} {s : ByteArray} (h : na < 1000) : afterR t [(⟨#[114, 101, 116, 114, 121]⟩, ⟨#[57]⟩), askH na, askH nb, (⟨#[120]⟩, s)] = capR t (na : Int) := by
  have e : getH retryN [(⟨#[114, 101, 116, 114, 121]⟩, ⟨#[57]⟩), askH na, askH nb, (⟨#[120]⟩, s)] = getH retryN [askH na, askH nb, (⟨#[120]⟩, s)] := getH_past low_retry
  unfold afterR askedR
  rw [e]
  exact after_ask (tl := [askH nb, (⟨#[120]⟩, s)]) h
set_option maxRecDepth 100000 in
set_option maxHeartbeats 1000000 in
theorem wleast_spec {w0 w : World} {I : Imm} {L : Own} (hst : St w0 w I L) (t a b : Int) (s : ByteArray) (ht : i64ok t) (ha : i64ok a) (hb : i64ok b) (hs : s.size ≤ 9223372036854775807) :
    Calls Try.prog 7 #[.int .i64 t, .int .i64 a, .int .i64 b, .string s] w fun e w' => e = .returned (.bool true) ∧ ∃ I', I.le I' ∧ St w0 w' I' L := by
  refine enter Try.func7 rfl (N := 67) rfl rfl ?_
  simp only [List.zipIdx_cons, List.zipIdx_nil, List.map_cons, List.map_nil, Nat.zero_add, Nat.reduceAdd]
  have hle := Imm.le.refl I
  refine CW.seq ?_
  -- region 0
  refine CW.region ?_
  refine RW.op1 rfl (runs_assign rfl) ?_
  refine RW.done ?_
  refine AQ.next ?_
  refine CW.seq ?_
  -- region 1
  refine CW.region ?_
  refine RW.op1 rfl (runs_move rfl) ?_
  refine RW.call rfl call8 rfl rfl (within_spec hst (v := t) (n := 8) (by assumption) (by unfold i64ok; decide)) ?_
  rintro e w ⟨rfl, hstn⟩
  clear hst
  have hst := hstn
  clear hstn
  have hw1 := within_range (t) 8
  generalize hx1 : within (t) 8 = x1 at *
  obtain ⟨nt, rfl⟩ : ∃ m : Nat, x1 = m := ⟨x1.toNat, by omega⟩
  refine ⟨_, rfl, ?_⟩
  refine RW.op1 rfl (runs_move rfl) ?_
  refine RW.call rfl call8 rfl rfl (within_spec hst (v := a) (n := 40) (by assumption) (by unfold i64ok; decide)) ?_
  rintro e w ⟨rfl, hstn⟩
  clear hst
  have hst := hstn
  clear hstn
  have hw2 := within_range (a) 40
  generalize hx2 : within (a) 40 = x2 at *
  obtain ⟨na, rfl⟩ : ∃ m : Nat, x2 = m := ⟨x2.toNat, by omega⟩
  refine ⟨_, rfl, ?_⟩
  refine RW.op1 rfl (runs_move rfl) ?_
  refine RW.call rfl call8 rfl rfl (within_spec hst (v := b) (n := 40) (by assumption) (by unfold i64ok; decide)) ?_
  rintro e w ⟨rfl, hstn⟩
  clear hst
  have hst := hstn
  clear hstn
  have hw3 := within_range (b) 40
  generalize hx3 : within (b) 40 = x3 at *
  obtain ⟨nb, rfl⟩ : ∃ m : Nat, x3 = m := ⟨x3.toNat, by omega⟩
  refine ⟨_, rfl, ?_⟩
  refine RW.op1 rfl (runs_assign rfl) ?_
  refine RW.op1 rfl (runs_assign rfl) ?_
  refine RW.op1 rfl (runs_assign rfl) ?_
  refine RW.done ?_
  refine AQ.next ?_
  refine CW.seq ?_
  -- region 2
  refine CW.region ?_
  refine RW.op1 rfl (runs_move rfl) ?_
  refine RW.op1 rfl (runs_move rfl) ?_
  refine RW.op1 rfl (runs_move rfl) ?_
  refine RW.op1 rfl (runs_min rfl rfl) ?_
  obtain ⟨mn, hmn, hmn1⟩ : ∃ m : Nat, (if (nb : Int) < (na : Int) then (nb : Int) else (na : Int)) = (m : Int) ∧ m < 40 ∧ m ≤ na ∧ m ≤ nb := ⟨if nb < na then nb else na, by split <;> split <;> omega, by split <;> omega⟩
  rw [hmn]
  refine RW.call rfl call19 rfl rfl (asks_spec hst mn (by omega)) ?_
  rintro e w ⟨rfl, hstn⟩
  clear hst
  have hst := hstn
  clear hstn
  refine ⟨_, rfl, ?_⟩
  refine RW.opE rfl (runs_litF (xs := [.agg #[_, _]]) Try.underlying24 ti28 (by decide) rfl rfl rfl rfl rfl hst (by decide)) ?_
  rintro u5 w ⟨Lv5, hstn, hg5⟩
  clear hst
  have hst := hstn
  clear hstn
  obtain ⟨J5, hJ5, hstn, h5⟩ := Grow.freeze hg5 hst
  clear hst
  have hst := hstn
  clear hstn
  replace hle := hle.trans hJ5
  try simp only [List.nil_append] at h5
  replace h5 : RdH _ u5 [askH mn] := h5
  have hR1 := h5
  refine RW.call rfl call12 rfl rfl (after_spec hst (nt : Int) hR1 (by intro q hq; rw [List.mem_singleton.1 hq]; show retryH.size ≤ _; decide) (by intro q hq; rw [List.mem_singleton.1 hq]; have := digS_size (mn); show (digS (mn)).size ≤ _; omega) (by show 1 ≤ 1000000; decide)) ?_
  rintro e w ⟨I6, hI6, rfl, hstn⟩
  clear hst
  have hst := hstn
  clear hstn
  rw [after_ask (n := mn) (by omega)]
  replace h5 := h5.mono hI6
  replace hR1 := hR1.mono hI6
  replace hle := hle.trans hI6
  refine ⟨_, rfl, ?_⟩
  refine RW.op1 rfl (runs_move rfl) ?_
  refine RW.op1 rfl (runs_move rfl) ?_
  refine RW.op1 rfl (runs_move rfl) ?_
  refine RW.op1 rfl (runs_max rfl rfl) ?_
  obtain ⟨mx, hmx, hmx1⟩ : ∃ m : Nat, (if (nb : Int) > (na : Int) then (nb : Int) else (na : Int)) = (m : Int) ∧ m < 40 ∧ na ≤ m ∧ nb ≤ m := ⟨if nb > na then nb else na, by split <;> split <;> omega, by split <;> omega⟩
  rw [hmx]
  refine RW.call rfl call19 rfl rfl (asks_spec hst mx (by omega)) ?_
  rintro e w ⟨rfl, hstn⟩
  clear hst
  have hst := hstn
  clear hstn
  refine ⟨_, rfl, ?_⟩
  refine RW.opE rfl (runs_litF (xs := [.agg #[_, _]]) Try.underlying24 ti28 (by decide) rfl rfl rfl rfl rfl hst (by decide)) ?_
  rintro u8 w ⟨Lv8, hstn, hg8⟩
  clear hst
  have hst := hstn
  clear hstn
  obtain ⟨J8, hJ8, hstn, h8⟩ := Grow.freeze hg8 hst
  clear hst
  have hst := hstn
  clear hstn
  replace h5 := h5.mono hJ8
  replace hR1 := hR1.mono hJ8
  replace hle := hle.trans hJ8
  try simp only [List.nil_append] at h8
  replace h8 : RdH _ u8 [askH mx] := h8
  have hR2 := h8
  refine RW.call rfl call12 rfl rfl (after_spec hst (nt : Int) hR2 (by intro q hq; rw [List.mem_singleton.1 hq]; show retryH.size ≤ _; decide) (by intro q hq; rw [List.mem_singleton.1 hq]; have := digS_size (mx); show (digS (mx)).size ≤ _; omega) (by show 1 ≤ 1000000; decide)) ?_
  rintro e w ⟨I9, hI9, rfl, hstn⟩
  clear hst
  have hst := hstn
  clear hstn
  rw [after_ask (n := mx) (by omega)]
  replace h5 := h5.mono hI9
  replace hR1 := hR1.mono hI9
  replace h8 := h8.mono hI9
  replace hR2 := hR2.mono hI9
  replace hle := hle.trans hI9
  refine ⟨_, rfl, ?_⟩
  refine RW.op1 rfl (runs_assign rfl) ?_
  refine RW.op1 rfl (runs_assign rfl) ?_
  refine RW.done ?_
  refine AQ.next ?_
  refine CW.seq ?_
  -- region 3
  refine CW.region ?_
  refine RW.op1 rfl (runs_move rfl) ?_
  refine RW.op1 rfl (runs_buildF (cells := [_, _]) bz28 rfl rfl rfl rfl rfl) ?_
  refine RW.op1 rfl (runs_move rfl) ?_
  refine RW.call rfl call19 rfl rfl (asks_spec hst na (by omega)) ?_
  rintro e w ⟨rfl, hstn⟩
  clear hst
  have hst := hstn
  clear hstn
  refine ⟨_, rfl, ?_⟩
  refine RW.op1 rfl (runs_move rfl) ?_
  refine RW.call rfl call19 rfl rfl (asks_spec hst nb (by omega)) ?_
  rintro e w ⟨rfl, hstn⟩
  clear hst
  have hst := hstn
  clear hstn
  refine ⟨_, rfl, ?_⟩
  refine RW.op1 rfl (runs_move rfl) ?_
  refine RW.op1 rfl (runs_buildF (cells := [_, _]) bz28 rfl rfl rfl rfl rfl) ?_
  refine RW.opE rfl (runs_litF (xs := [.agg #[_, _], .agg #[_, _], .agg #[_, _], .agg #[_, _]]) Try.underlying24 ti28 (by decide) rfl rfl rfl rfl rfl hst (by decide)) ?_
  rintro u12 w ⟨Lv12, hstn, hg12⟩
  clear hst
  have hst := hstn
  clear hstn
  obtain ⟨J12, hJ12, hstn, h12⟩ := Grow.freeze hg12 hst
  clear hst
  have hst := hstn
  clear hstn
  replace h5 := h5.mono hJ12
  replace hR1 := hR1.mono hJ12
  replace h8 := h8.mono hJ12
  replace hR2 := hR2.mono hJ12
  replace hle := hle.trans hJ12
  try simp only [List.nil_append] at h12
  replace h12 : RdH _ u12 [(⟨#[114, 101, 116, 114, 121]⟩, ⟨#[57]⟩), askH na, askH nb, (⟨#[120]⟩, s)] := h12
  have hR3 := h12
  refine RW.call rfl call12 rfl rfl (after_spec hst (nt : Int) hR3 (by intro q hq; simp only [List.mem_cons, List.not_mem_nil, or_false] at hq; rcases hq with rfl | rfl | rfl | rfl; all_goals first | (show retryH.size ≤ _; decide) | (show (⟨#[120]⟩ : ByteArray).size ≤ _; decide) | decide) (by intro q hq; have h1 := digS_size na; have h2 := digS_size nb; simp only [List.mem_cons, List.not_mem_nil, or_false] at hq; rcases hq with rfl | rfl | rfl | rfl; all_goals first | (show (digS na).size ≤ _; omega) | (show (digS nb).size ≤ _; omega) | exact hs | decide) (by show 4 ≤ 1000000; decide)) ?_
  rintro e w ⟨I13, hI13, rfl, hstn⟩
  clear hst
  have hst := hstn
  clear hstn
  rw [after_z (by omega)]
  replace h5 := h5.mono hI13
  replace hR1 := hR1.mono hI13
  replace h8 := h8.mono hI13
  replace hR2 := hR2.mono hI13
  replace h12 := h12.mono hI13
  replace hR3 := hR3.mono hI13
  replace hle := hle.trans hI13
  refine ⟨_, rfl, ?_⟩
  refine RW.op1 rfl (runs_assign rfl) ?_
  refine RW.done ?_
  refine AQ.next ?_
  refine CW.seq ?_
  -- region 4
  refine CW.region ?_
  refine RW.op1 rfl (runs_move rfl) ?_
  refine RW.op1 rfl (runs_move rfl) ?_
  refine RW.call rfl call11 rfl rfl (delay_spec hst (nt : Int)) ?_
  rintro e w ⟨rfl, hstn⟩
  clear hst
  have hst := hstn
  clear hstn
  refine ⟨_, rfl, ?_⟩
  refine RW.op1 rfl (runs_geq rfl rfl) ?_
  refine RW.op1 rfl (runs_move rfl) ?_
  have hk46 := (show decide (capR nt mn ≥ delayR nt) = true by rw [decide_eq_true_eq]; exact cap_least _ _)
  refine RW.on_guard rfl rfl rfl rfl hk46 ?_
  refine RW.op1 rfl (runs_move rfl) ?_
  refine RW.on_guard rfl rfl rfl rfl hk46 ?_
  refine RW.op1 rfl (runs_move rfl) ?_
  refine RW.on_guard rfl rfl rfl rfl hk46 ?_
  refine RW.op1 rfl (runs_leq rfl rfl) ?_
  refine RW.op1 rfl (runs_pick_true rfl hk46 rfl) ?_
  refine RW.op1 rfl (runs_move rfl) ?_
  have hk51 := (show decide (capR nt mn ≤ capR nt mx) = true by rw [decide_eq_true_eq]; exact cap_mono _ (by omega))
  refine RW.on_guard rfl rfl rfl rfl hk51 ?_
  refine RW.op1 rfl (runs_move rfl) ?_
  refine RW.on_guard rfl rfl rfl rfl hk51 ?_
  refine RW.op1 rfl (runs_leq rfl rfl) ?_
  refine RW.op1 rfl (runs_pick_true rfl hk51 rfl) ?_
  refine RW.op1 rfl (runs_move rfl) ?_
  have hk55 := (show decide (capR nt mx ≤ 16) = true by rw [decide_eq_true_eq]; exact cap_most _ _)
  refine RW.on_guard rfl rfl rfl rfl hk55 ?_
  refine RW.op1 rfl (runs_move rfl) ?_
  refine RW.on_guard rfl rfl rfl rfl hk55 ?_
  refine RW.op1 rfl (runs_move rfl) ?_
  refine RW.on_guard rfl rfl rfl rfl hk55 ?_
  refine RW.op1 rfl (runs_move rfl) ?_
  refine RW.on_guard rfl rfl rfl rfl hk55 ?_
  refine RW.call rfl call19 rfl rfl (asks_spec hst na (by omega)) ?_
  rintro e w ⟨rfl, hstn⟩
  clear hst
  have hst := hstn
  clear hstn
  refine ⟨_, rfl, ?_⟩
  refine RW.on_guard rfl rfl rfl rfl hk55 ?_
  refine RW.opE rfl (runs_litF (xs := [.agg #[_, _]]) Try.underlying24 ti28 (by decide) rfl rfl rfl rfl rfl hst (by decide)) ?_
  rintro u16 w ⟨Lv16, hstn, hg16⟩
  clear hst
  have hst := hstn
  clear hstn
  obtain ⟨J16, hJ16, hstn, h16⟩ := Grow.freeze hg16 hst
  clear hst
  have hst := hstn
  clear hstn
  replace h5 := h5.mono hJ16
  replace hR1 := hR1.mono hJ16
  replace h8 := h8.mono hJ16
  replace hR2 := hR2.mono hJ16
  replace h12 := h12.mono hJ16
  replace hR3 := hR3.mono hJ16
  replace hle := hle.trans hJ16
  try simp only [List.nil_append] at h16
  replace h16 : RdH _ u16 [askH na] := h16
  have hR4 := h16
  refine RW.on_guard rfl rfl rfl rfl hk55 ?_
  refine RW.call rfl call12 rfl rfl (after_spec hst (nt : Int) hR4 (by intro q hq; rw [List.mem_singleton.1 hq]; show retryH.size ≤ _; decide) (by intro q hq; rw [List.mem_singleton.1 hq]; have := digS_size (na); show (digS (na)).size ≤ _; omega) (by show 1 ≤ 1000000; decide)) ?_
  rintro e w ⟨I17, hI17, rfl, hstn⟩
  clear hst
  have hst := hstn
  clear hstn
  rw [after_ask (n := na) (by omega)]
  replace h5 := h5.mono hI17
  replace hR1 := hR1.mono hI17
  replace h8 := h8.mono hI17
  replace hR2 := hR2.mono hI17
  replace h12 := h12.mono hI17
  replace hR3 := hR3.mono hI17
  replace h16 := h16.mono hI17
  replace hR4 := hR4.mono hI17
  replace hle := hle.trans hI17
  refine ⟨_, rfl, ?_⟩
  refine RW.on_guard rfl rfl rfl rfl hk55 ?_
  refine RW.op1 rfl (runs_eqI rfl rfl) ?_
  refine RW.op1 rfl (runs_pick_true rfl hk55 rfl) ?_
  refine RW.op1 rfl (runs_move rfl) ?_
  have hk64 := (show decide (capR nt na = capR nt na) = true by simp)
  refine RW.on_guard rfl rfl rfl rfl hk64 ?_
  refine RW.call rfl call14 rfl rfl (wakes16_spec hst) ?_
  rintro e w ⟨rfl, I18, hI18, hstn⟩
  clear hst
  have hst := hstn
  clear hstn
  replace h5 := h5.mono hI18
  replace hR1 := hR1.mono hI18
  replace h8 := h8.mono hI18
  replace hR2 := hR2.mono hI18
  replace h12 := h12.mono hI18
  replace hR3 := hR3.mono hI18
  replace h16 := h16.mono hI18
  replace hR4 := hR4.mono hI18
  replace hle := hle.trans hI18
  refine ⟨_, rfl, ?_⟩
  refine RW.op1 rfl (runs_pick_true rfl hk64 rfl) ?_
  refine RW.op1 rfl (runs_assign rfl) ?_
  refine RW.done ?_
  refine AQ.next ?_
  refine CW.ret ?_
  refine AQ.ret1 rfl rfl ?_
  exact ⟨rfl, _, hle, hst⟩
end Go.Proofs.YtdelipmhginegaaX
