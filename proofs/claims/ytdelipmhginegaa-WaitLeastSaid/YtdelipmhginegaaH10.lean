/- Waits grow, and are never less than one's own: the walks. -/
import Derived.Test.YtdelipmhginegaaT
import Derived.Test.YtdelipmhginegaaH9
namespace Go.Proofs.YtdelipmhginegaaX
set_option linter.unusedVariables false
set_option linter.unusedSimpArgs false
open Go Go.RowKit Go.Proofs

def digS (n : Nat) : ByteArray := strOf (digF 20 n)
theorem digits_spec (m : Nat) (hm : m ≤ 9223372036854775807) {w0 w : World} {I : Imm} {L : Own} (hst : St w0 w I L) : Calls Try.prog 18 #[.int .i64 (m : Int)] w fun e w' => e = .returned (.string (digS m)) ∧ St w0 w' I L :=
  digits_room 19 (by decide) m hst (show m < 10000000000000000000 by omega) hm
def retryH : ByteArray := ⟨#[82, 101, 116, 114, 121, 45, 65, 102, 116, 101, 114]⟩
def askH (n : Nat) : HRow := (retryH, digS n)
theorem number_dig : ∀ n, n < 1000 → numberR (digF 20 n) = some (n : Int) := by decide +kernel
theorem number_minus : ∀ n, n < 1000 → numberR (45 :: digF 20 n) = none := by decide +kernel
theorem digS_size (n : Nat) : (digS n).size ≤ 20 := by
  show (strOf (digF 20 n)).size ≤ 20
  rw [strOf_size]
  exact digF_len 20 n
theorem digS_list (n : Nat) : (digS n).toList = digF 20 n := strOf_toList _
theorem low_retryH : lowEq retryH retryN = true := by
  unfold lowEq
  simp only [ByteArray.toList_eq]
  decide
theorem low_retryN : lowEq retryN retryN = true := by
  unfold lowEq
  simp only [ByteArray.toList_eq]
  decide
theorem low_retry : lowEq ⟨#[114, 101, 116, 114, 121]⟩ retryN = false := by
  unfold lowEq
  simp only [ByteArray.toList_eq]
  decide
theorem getH_of {n : ByteArray} {r : HRow} {t : List HRow} (h : lowEq r.1 n = true) : getH n (r :: t) = (r.2, true) := by
  unfold getH
  rw [List.find?_cons, h]
theorem getH_past {n : ByteArray} {r : HRow} {t : List HRow} (h : lowEq r.1 n = false) : getH n (r :: t) = getH n t := by
  unfold getH
  rw [List.find?_cons, h]
def capR (t n : Int) : Int := if (if 16 < n then 16 else n) > delayR t then (if 16 < n then 16 else n) else delayR t
theorem after_of {t : Int} {hs : List HRow} {n : Int} (h : numberR (getH retryN hs).1.toList = some n) : afterR t hs = capR t n := by
  unfold afterR askedR
  rw [h]
  rfl
theorem after_ask {t : Int} {n : Nat} (hn : n < 1000) {tl : List HRow} : afterR t (askH n :: tl) = capR t n := by
  refine after_of ?_
  rw [getH_of low_retryH]
  show numberR (digS n).toList = _
  rw [digS_list]
  exact number_dig n hn
theorem after_low {t : Int} {n : Nat} (hn : n < 1000) {tl : List HRow} : afterR t ((retryN, digS n) :: tl) = capR t n := by
  refine after_of ?_
  rw [getH_of low_retryN]
  show numberR (digS n).toList = _
  rw [digS_list]
  exact number_dig n hn
theorem delay_range (t : Int) : 1 ≤ delayR t ∧ delayR t ≤ 16 := by
  unfold delayR
  (repeat' split) <;> omega
theorem delay_double {t : Int} (h : 0 ≤ t) : delayR (t + 1) = if 16 < 2 * delayR t then 16 else 2 * delayR t := by
  unfold delayR
  (repeat' split) <;> omega
theorem minus_digS (n : Nat) : (⟨#[45]⟩ : ByteArray) ++ digS n = strOf (45 :: digF 20 n) := strOf_append [45] (digF 20 n)
theorem after_minus {t : Int} {n : Nat} (hn : n < 1000) {s : ByteArray} (hs : s = strOf (45 :: digF 20 n)) : afterR t [(retryN, s)] = delayR t := by
  unfold afterR askedR
  rw [getH_of low_retryN]
  show (if (if 16 < (numberR s.toList).getD 0 then 16 else (numberR s.toList).getD 0) > delayR t then _ else _) = _
  rw [hs, strOf_toList, number_minus n hn]
  have := delay_range t
  rw [if_neg]
  show ¬ (if (16 : Int) < 0 then (16 : Int) else 0) > delayR t
  rw [if_neg (by decide)]
  omega
set_option maxRecDepth 100000 in
set_option maxHeartbeats 1000000 in
theorem asks_spec {w0 w : World} {I : Imm} {L : Own} (hst : St w0 w I L) (m : Nat) (hm : m ≤ 9223372036854775807) :
    Calls Try.prog 19 #[.int .i64 (m : Int)] w fun e w' => e = .returned (.agg #[.string (askH m).1, .string (askH m).2]) ∧ St w0 w' I L := by
  refine enter Try.func19 rfl (N := 6) rfl rfl ?_
  simp only [List.zipIdx_cons, List.zipIdx_nil, List.map_cons, List.map_nil, Nat.zero_add, Nat.reduceAdd]
  have hle := Imm.le.refl I
  refine CW.seq ?_
  -- region 0
  refine CW.region ?_
  refine RW.opE rfl (runs_alloc ti28 hst) ?_
  rintro _ w ⟨b1, rfl, hstn⟩
  clear hst
  have hst := hstn
  clear hstn
  refine RW.done ?_
  refine AQ.next ?_
  refine CW.seq ?_
  -- region 1
  refine CW.region ?_
  refine RW.op1 rfl (runs_move rfl) ?_
  refine RW.call rfl call18 rfl rfl (digits_spec m hm hst) ?_
  rintro e w ⟨rfl, hstn⟩
  clear hst
  have hst := hstn
  clear hstn
  refine ⟨_, rfl, ?_⟩
  refine RW.op1 rfl (runs_buildF (cells := [_, _]) bz28 rfl rfl rfl rfl rfl) ?_
  first
    | refine RW.opE0 (runs_storeW ti28 rfl rfl hst (k := 0) rfl rfl rfl (NoFz.zero _) rfl) ?_
    | refine RW.opE0 (runs_storeP ti28 rfl rfl hst (k := 0) rfl rfl rfl (NoFz.zero _) rfl) ?_
    | refine RW.opE0 (runs_storeW ti28 rfl rfl hst (k := 1) rfl rfl rfl (NoFz.zero _) rfl) ?_
    | refine RW.opE0 (runs_storeP ti28 rfl rfl hst (k := 1) rfl rfl rfl (NoFz.zero _) rfl) ?_
    | refine RW.opE0 (runs_storeW ti28 rfl rfl hst (k := 2) rfl rfl rfl (NoFz.zero _) rfl) ?_
    | refine RW.opE0 (runs_storeP ti28 rfl rfl hst (k := 2) rfl rfl rfl (NoFz.zero _) rfl) ?_
  rintro w hstn
  clear hst
  have hst := hstn
  clear hstn
  try simp only [List.set_cons_zero, List.set_cons_succ] at hst
  refine RW.done ?_
  refine AQ.next ?_
  refine CW.ret ?_
  refine AQ.retS rfl rfl (hst.loadN (vs := [_, _]) (k := 0) ag28 ti28 rfl rfl rfl) ?_
  exact ⟨rfl, hst.drop1⟩
set_option maxRecDepth 100000 in
set_option maxHeartbeats 1000000 in
theorem wgrows_spec {w0 w : World} {I : Imm} {L : Own} (hst : St w0 w I L) (t n : Int) (ht : i64ok t) (hn : i64ok n) :
    Calls Try.prog 6 #[.int .i64 t, .int .i64 n] w fun e w' => e = .returned (.bool true) ∧ ∃ I', I.le I' ∧ St w0 w' I' L := by
  refine enter Try.func6 rfl (N := 71) rfl rfl ?_
  simp only [List.zipIdx_cons, List.zipIdx_nil, List.map_cons, List.map_nil, Nat.zero_add, Nat.reduceAdd]
  have hle := Imm.le.refl I
  refine CW.seq ?_
  -- region 0
  refine CW.region ?_
  refine RW.op1 rfl (runs_assign rfl) ?_
  refine RW.done ?_
  refine AQ.next ?_
  refine CW.seq ?_
  -- region 1
  refine CW.region ?_
  refine RW.op1 rfl (runs_move rfl) ?_
  refine RW.call rfl call8 rfl rfl (within_spec hst (v := t) (n := 70) ht (by unfold i64ok; decide)) ?_
  rintro e w ⟨rfl, hstn⟩
  clear hst
  have hst := hstn
  clear hstn
  have hw1 := within_range t 70
  generalize hx1 : within t 70 = tt at *
  have hdr := delay_range tt
  have hdd := delay_double (t := tt) (by omega)
  refine ⟨_, rfl, ?_⟩
  refine RW.op1 rfl (runs_assign rfl) ?_
  refine RW.done ?_
  refine AQ.next ?_
  refine CW.seq ?_
  -- region 2
  refine CW.region ?_
  refine RW.op1 rfl (runs_move rfl) ?_
  refine RW.call rfl call11 rfl rfl (delay_spec hst tt) ?_
  rintro e w ⟨rfl, hstn⟩
  clear hst
  have hst := hstn
  clear hstn
  refine ⟨_, rfl, ?_⟩
  refine RW.op1 rfl (runs_move rfl) ?_
  refine RW.op1 rfl (runs_add rfl rfl (by omega)) ?_
  refine RW.call rfl call11 rfl rfl (delay_spec hst (tt + 1)) ?_
  rintro e w ⟨rfl, hstn⟩
  clear hst
  have hst := hstn
  clear hstn
  refine ⟨_, rfl, ?_⟩
  refine RW.op1 rfl (runs_assign rfl) ?_
  refine RW.op1 rfl (runs_assign rfl) ?_
  refine RW.done ?_
  refine AQ.next ?_
  refine CW.seq ?_
  refine CW.seq ?_
  -- region 3
  refine CW.region ?_
  refine RW.op1 rfl (runs_move rfl) ?_
  refine RW.op1 rfl (runs_lss rfl rfl) ?_
  refine RW.op1 rfl (runs_move rfl) ?_
  have hk18 := (show decide (delayR tt < 1) = false by rw [decide_eq_false_iff_not]; omega)
  refine RW.on_guard rfl rfl rfl rfl hk18 ?_
  refine RW.op1 rfl (runs_move rfl) ?_
  refine RW.on_guard rfl rfl rfl rfl hk18 ?_
  refine RW.op1 rfl (runs_gtr rfl rfl) ?_
  refine RW.op1 rfl (runs_pick_false rfl hk18 rfl) ?_
  refine RW.op1 rfl (runs_move rfl) ?_
  have hk22 := (show decide (delayR tt > 16) = false by rw [decide_eq_false_iff_not]; omega)
  refine RW.on_guard rfl rfl rfl rfl hk22 ?_
  refine RW.op1 rfl (runs_move rfl) ?_
  refine RW.on_guard rfl rfl rfl rfl hk22 ?_
  refine RW.op1 rfl (runs_move rfl) ?_
  refine RW.on_guard rfl rfl rfl rfl hk22 ?_
  refine RW.op1 rfl (runs_mul rfl rfl (by omega)) ?_
  refine RW.on_guard rfl rfl rfl rfl hk22 ?_
  refine RW.op1 rfl (runs_min rfl rfl) ?_
  refine RW.on_guard rfl rfl rfl rfl hk22 ?_
  refine RW.op1 rfl (runs_neI rfl rfl) ?_
  refine RW.op1 rfl (runs_pick_false rfl hk22 rfl) ?_
  refine RW.done ?_
  refine AQ.next ?_
  refine CW.cond rfl (fun hc => absurd hc (by rw [hdd]; simp)) (fun hc => ?_)
  refine CW.skip ?_
  refine AQ.next ?_
  refine CW.seq ?_
  -- region 5
  refine CW.region ?_
  refine RW.op1 rfl (runs_move rfl) ?_
  refine RW.call rfl call8 rfl rfl (within_spec hst (v := n) (n := 1000) hn (by unfold i64ok; decide)) ?_
  rintro e w ⟨rfl, hstn⟩
  clear hst
  have hst := hstn
  clear hstn
  have hw2 := within_range n 1000
  generalize hx2 : within n 1000 = n2 at *
  obtain ⟨nn, rfl⟩ : ∃ m : Nat, n2 = m := ⟨n2.toNat, by omega⟩
  have hnn : nn < 1000 := by omega
  refine ⟨_, rfl, ?_⟩
  refine RW.op1 rfl (runs_assign rfl) ?_
  refine RW.done ?_
  refine AQ.next ?_
  refine CW.seq ?_
  -- region 6
  refine CW.region ?_
  refine RW.op1 rfl (runs_move rfl) ?_
  refine RW.call rfl call18 rfl rfl (digits_spec nn (by omega) hst) ?_
  rintro e w ⟨rfl, hstn⟩
  clear hst
  have hst := hstn
  clear hstn
  have hds := digS_size nn
  refine ⟨_, rfl, ?_⟩
  refine RW.op1 rfl (runs_assign rfl) ?_
  refine RW.done ?_
  refine AQ.next ?_
  refine CW.seq ?_
  -- region 7
  refine CW.region ?_
  refine RW.op1 rfl (runs_move rfl) ?_
  refine RW.op1 rfl (runs_move rfl) ?_
  refine RW.op1 rfl (runs_buildF (cells := [_, _]) bz28 rfl rfl rfl rfl rfl) ?_
  refine RW.opE rfl (runs_litF (xs := [.agg #[_, _]]) Try.underlying24 ti28 (by decide) rfl rfl rfl rfl rfl hst (by decide)) ?_
  rintro u6 w ⟨Lv6, hstn, hg6⟩
  clear hst
  have hst := hstn
  clear hstn
  obtain ⟨J6, hJ6, hstn, h6⟩ := Grow.freeze hg6 hst
  clear hst
  have hst := hstn
  clear hstn
  replace hle := hle.trans hJ6
  try simp only [List.nil_append] at h6
  replace h6 : RdH _ u6 [(retryN, digS nn)] := h6
  have hR := h6
  refine RW.call rfl call12 rfl rfl (after_spec hst tt hR (by intro q hq; rw [List.mem_singleton.1 hq]; first | (show retryN.size ≤ _; decide) | (show retryH.size ≤ _; decide)) (by intro q hq; rw [List.mem_singleton.1 hq]; have := digS_size nn; show (digS nn).size ≤ _; omega) (by show 1 ≤ 1000000; decide)) ?_
  rintro e w ⟨I7, hI7, rfl, hstn⟩
  clear hst
  have hst := hstn
  clear hstn
  replace h6 := h6.mono hI7
  replace hR := hR.mono hI7
  replace hle := hle.trans hI7
  refine ⟨_, rfl, ?_⟩
  refine RW.op1 rfl (runs_assign rfl) ?_
  refine RW.done ?_
  refine AQ.next ?_
  refine CW.seq ?_
  -- region 8
  refine CW.region ?_
  refine RW.op1 rfl (runs_move rfl) ?_
  refine RW.op1 rfl (runs_move rfl) ?_
  refine RW.op1 rfl (runs_move rfl) ?_
  refine RW.op1 rfl (runs_min rfl rfl) ?_
  refine RW.op1 rfl (runs_max rfl rfl) ?_
  refine RW.op1 rfl (runs_eqI rfl rfl) ?_
  refine RW.op1 rfl (runs_move rfl) ?_
  have hk44 := (show decide (afterR tt [(retryN, digS nn)] = if (if (16 : Int) < (nn : Int) then (16 : Int) else (nn : Int)) > delayR tt then (if (16 : Int) < (nn : Int) then (16 : Int) else (nn : Int)) else delayR tt) = true by rw [after_low hnn]; unfold capR; simp)
  refine RW.on_guard rfl rfl rfl rfl hk44 ?_
  refine RW.op1 rfl (runs_move rfl) ?_
  refine RW.on_guard rfl rfl rfl rfl hk44 ?_
  refine RW.op1 rfl (runs_move rfl) ?_
  refine RW.on_guard rfl rfl rfl rfl hk44 ?_
  refine RW.op1 rfl (runs_addS rfl rfl (by show 1 + (digS nn).size ≤ _; omega)) ?_
  refine RW.on_guard rfl rfl rfl rfl hk44 ?_
  refine RW.op1 rfl (runs_buildF (cells := [_, _]) bz28 rfl rfl rfl rfl rfl) ?_
  refine RW.on_guard rfl rfl rfl rfl hk44 ?_
  refine RW.opE rfl (runs_litF (xs := [.agg #[_, _]]) Try.underlying24 ti28 (by decide) rfl rfl rfl rfl rfl hst (by decide)) ?_
  rintro u8 w ⟨Lv8, hstn, hg8⟩
  clear hst
  have hst := hstn
  clear hstn
  obtain ⟨J8, hJ8, hstn, h8⟩ := Grow.freeze hg8 hst
  clear hst
  have hst := hstn
  clear hstn
  replace h6 := h6.mono hJ8
  replace hR := hR.mono hJ8
  replace hle := hle.trans hJ8
  try simp only [List.nil_append] at h8
  replace h8 : RdH _ u8 [(retryN, ⟨#[45]⟩ ++ digS nn)] := h8
  have hM := h8
  refine RW.on_guard rfl rfl rfl rfl hk44 ?_
  refine RW.call rfl call12 rfl rfl (after_spec hst tt hM (by intro q hq; rw [List.mem_singleton.1 hq]; first | (show retryN.size ≤ _; decide) | (show retryH.size ≤ _; decide)) (by intro q hq; rw [List.mem_singleton.1 hq]; show ((⟨#[45]⟩ : ByteArray) ++ digS nn).size ≤ _; rw [ByteArray.size_append]; show 1 + (digS nn).size ≤ _; omega) (by show 1 ≤ 1000000; decide)) ?_
  rintro e w ⟨I9, hI9, rfl, hstn⟩
  clear hst
  have hst := hstn
  clear hstn
  replace h6 := h6.mono hI9
  replace hR := hR.mono hI9
  replace h8 := h8.mono hI9
  replace hM := hM.mono hI9
  replace hle := hle.trans hI9
  refine ⟨_, rfl, ?_⟩
  refine RW.on_guard rfl rfl rfl rfl hk44 ?_
  refine RW.op1 rfl (runs_move rfl) ?_
  refine RW.on_guard rfl rfl rfl rfl hk44 ?_
  refine RW.op1 rfl (runs_eqI rfl rfl) ?_
  refine RW.op1 rfl (runs_pick_true rfl hk44 rfl) ?_
  refine RW.op1 rfl (runs_move rfl) ?_
  have hk54 := (show decide (afterR tt [(retryN, ⟨#[45]⟩ ++ digS nn)] = delayR tt) = true by rw [after_minus hnn (minus_digS nn)]; simp)
  refine RW.on_guard rfl rfl rfl rfl hk54 ?_
  refine RW.call rfl call11 rfl rfl (delay_spec hst 0) ?_
  rintro e w ⟨rfl, hstn⟩
  clear hst
  have hst := hstn
  clear hstn
  refine ⟨_, rfl, ?_⟩
  refine RW.on_guard rfl rfl rfl rfl hk54 ?_
  refine RW.op1 rfl (runs_eqI rfl rfl) ?_
  refine RW.op1 rfl (runs_pick_true rfl hk54 rfl) ?_
  refine RW.op1 rfl (runs_move rfl) ?_
  have hk58 := (show decide (delayR 0 = 1) = true by decide)
  refine RW.on_guard rfl rfl rfl rfl hk58 ?_
  refine RW.op1 rfl (runs_move rfl) ?_
  refine RW.on_guard rfl rfl rfl rfl hk58 ?_
  refine RW.op1 rfl (runs_neg rfl (by omega)) ?_
  refine RW.on_guard rfl rfl rfl rfl hk58 ?_
  refine RW.call rfl call11 rfl rfl (delay_spec hst (-(nn : Int))) ?_
  rintro e w ⟨rfl, hstn⟩
  clear hst
  have hst := hstn
  clear hstn
  refine ⟨_, rfl, ?_⟩
  refine RW.on_guard rfl rfl rfl rfl hk58 ?_
  refine RW.op1 rfl (runs_eqI rfl rfl) ?_
  refine RW.op1 rfl (runs_pick_true rfl hk58 rfl) ?_
  refine RW.op1 rfl (runs_move rfl) ?_
  have hk64 := (show decide (delayR (-(nn : Int)) = 1) = true by unfold delayR; rw [if_pos (by omega)]; rfl)
  refine RW.on_guard rfl rfl rfl rfl hk64 ?_
  refine RW.call rfl call11 rfl rfl (delay_spec hst 1099511627776) ?_
  rintro e w ⟨rfl, hstn⟩
  clear hst
  have hst := hstn
  clear hstn
  refine ⟨_, rfl, ?_⟩
  refine RW.on_guard rfl rfl rfl rfl hk64 ?_
  refine RW.op1 rfl (runs_eqI rfl rfl) ?_
  refine RW.op1 rfl (runs_pick_true rfl hk64 rfl) ?_
  refine RW.op1 rfl (runs_move rfl) ?_
  have hk68 := (show decide (delayR 1099511627776 = 16) = true by decide)
  refine RW.on_guard rfl rfl rfl rfl hk68 ?_
  refine RW.call rfl call14 rfl rfl (wakes16_spec hst) ?_
  rintro e w ⟨rfl, I13, hI13, hstn⟩
  clear hst
  have hst := hstn
  clear hstn
  replace h6 := h6.mono hI13
  replace hR := hR.mono hI13
  replace h8 := h8.mono hI13
  replace hM := hM.mono hI13
  replace hle := hle.trans hI13
  refine ⟨_, rfl, ?_⟩
  refine RW.op1 rfl (runs_pick_true rfl hk68 rfl) ?_
  refine RW.op1 rfl (runs_assign rfl) ?_
  refine RW.done ?_
  refine AQ.next ?_
  refine CW.ret ?_
  refine AQ.ret1 rfl rfl ?_
  exact ⟨rfl, _, hle, hst⟩
end Go.Proofs.YtdelipmhginegaaX
