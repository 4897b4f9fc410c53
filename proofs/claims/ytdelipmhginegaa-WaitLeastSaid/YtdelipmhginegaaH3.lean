/- The wait that an answer asks for: what this comes to; codes that may be tried again. -/
import Derived.Test.YtdelipmhginegaaT
import Derived.Test.YtdelipmhginegaaH2
namespace Go.Proofs.YtdelipmhginegaaX
set_option linter.unusedVariables false
set_option linter.unusedSimpArgs false
open Go Go.RowKit Go.Proofs

def retryN : ByteArray := ⟨#[114, 101, 116, 114, 121, 45, 97, 102, 116, 101, 114]⟩
def askedR (hs : List HRow) : Int := (numberR (getH retryN hs).1.toList).getD 0
def afterR (t : Int) (hs : List HRow) : Int := if (if 16 < askedR hs then 16 else askedR hs) > delayR t then (if 16 < askedR hs then 16 else askedR hs) else delayR t
theorem getH_size {n : ByteArray} {hs : List HRow} (h : ∀ r ∈ hs, r.2.size ≤ 9223372036854775807) : (getH n hs).1.size ≤ 9223372036854775807 := by
  unfold getH
  cases hf : hs.find? (fun r => lowEq r.1 n) with
  | none => decide
  | some r => exact h r (List.mem_of_find?_eq_some hf)
set_option maxRecDepth 100000 in
set_option maxHeartbeats 1000000 in
theorem after_spec {w0 w : World} {I : Imm} {L : Own} (hst : St w0 w I L) (t : Int) {v : Value} {hs : List HRow} (hv : RdH I v hs) (hok : ∀ r ∈ hs, r.1.size ≤ 9223372036854775807) (hok2 : ∀ r ∈ hs, r.2.size ≤ 9223372036854775807) (hlen : hs.length ≤ 1000000) :
    Calls Try.prog 12 #[.int .i64 t, v] w fun e w' => ∃ I', Imm.le I I' ∧ e = .returned (.int .i64 (afterR t hs)) ∧ St w0 w' I' L := by
  refine enter Try.func12 rfl (N := 24) rfl rfl ?_
  simp only [List.zipIdx_cons, List.zipIdx_nil, List.map_cons, List.map_nil, Nat.zero_add, Nat.reduceAdd]
  have hle := Imm.le.refl I
  refine CW.seq ?_
  -- region 0
  refine CW.region ?_
  refine RW.op1 rfl (runs_assign rfl) ?_
  refine RW.done ?_
  refine AQ.next ?_
  refine CW.seq ?_
  -- region 1
  refine CW.region ?_
  refine RW.op1 rfl (runs_move rfl) ?_
  refine RW.call rfl call9 rfl rfl (get_spec hst retryN (by decide) hv hok hlen) ?_
  rintro e w ⟨I1, hI1, rfl, hstn⟩
  clear hst
  have hst := hstn
  clear hstn
  replace hle := hle.trans hI1
  refine ⟨_, rfl, ?_⟩
  refine RW.op1 rfl (runs_move rfl) ?_
  refine RW.op1 rfl (runs_extract rfl rfl) ?_
  refine RW.op1 rfl (runs_extract rfl rfl) ?_
  refine RW.op1 rfl (runs_assign rfl) ?_
  refine RW.op1 rfl (runs_assign rfl) ?_
  refine RW.done ?_
  refine AQ.next ?_
  refine CW.seq ?_
  -- region 2
  refine CW.region ?_
  refine RW.op1 rfl (runs_move rfl) ?_
  refine RW.call rfl call22 rfl rfl (number_spec hst (getH retryN hs).1 (getH_size hok2)) ?_
  rintro e w ⟨rfl, hstn⟩
  clear hst
  have hst := hstn
  clear hstn
  refine ⟨_, rfl, ?_⟩
  refine RW.op1 rfl (runs_move rfl) ?_
  refine RW.op1 rfl (runs_extract rfl rfl) ?_
  refine RW.op1 rfl (runs_extract rfl rfl) ?_
  refine RW.op1 rfl (runs_assign rfl) ?_
  refine RW.op1 rfl (runs_assign rfl) ?_
  refine RW.done ?_
  refine AQ.next ?_
  refine CW.seq ?_
  -- region 3
  refine CW.region ?_
  refine RW.op1 rfl (runs_move rfl) ?_
  refine RW.call rfl call11 rfl rfl (delay_spec hst t) ?_
  rintro e w ⟨rfl, hstn⟩
  clear hst
  have hst := hstn
  clear hstn
  refine ⟨_, rfl, ?_⟩
  refine RW.op1 rfl (runs_move rfl) ?_
  refine RW.op1 rfl (runs_min rfl rfl) ?_
  refine RW.op1 rfl (runs_max rfl rfl) ?_
  refine RW.op1 rfl (runs_assign rfl) ?_
  refine RW.done ?_
  refine AQ.next ?_
  refine CW.ret ?_
  refine AQ.ret1 rfl rfl ?_
  exact ⟨_, hle, rfl, hst⟩
def findI (xs : List Int) (n : Int) : Int := match xs.findIdx? (fun x => decide (x = n)) with
  | some i => i
  | none => -1
theorem iat_get {xs : List Int} {k : Nat} (hk : k < xs.length) : iat xs (k : Int) = xs[k] := by
  unfold iat
  simp [hk]
theorem all_ne_more {xs : List Int} {n : Int} {k : Nat} (h : ∀ x ∈ xs.take k, x ≠ n) (hk : k < xs.length) (hd : xs[k] ≠ n) : ∀ x ∈ xs.take (k + 1), x ≠ n := by
  intro x hx
  rw [List.take_add_one, List.getElem?_eq_getElem hk] at hx
  rcases List.mem_append.1 hx with h1 | h1
  · exact h x h1
  · have : x = xs[k] := by simpa using h1
    rw [this]; exact hd
set_option maxRecDepth 100000 in
set_option maxHeartbeats 1000000 in
theorem index_spec {w0 w : World} {I : Imm} {L : Own} (hst : St w0 w I L) {v : Value} {xs : List Int} (hv : RdI I v xs) (n : Int) (hl : xs.length ≤ 1000000) :
    Calls Try.prog 28 #[v, .int .i64 n] w fun e w' => ∃ r : Int, e = .returned (.int .i64 r) ∧ decide (0 ≤ r) = decide (n ∈ xs) ∧ St w0 w' I L := by
  refine enter Try.func28 rfl (N := 19) rfl rfl ?_
  simp only [List.zipIdx_cons, List.zipIdx_nil, List.map_cons, List.map_nil, Nat.zero_add, Nat.reduceAdd]
  have hle := Imm.le.refl I
  refine CW.seq ?_
  -- region 0
  refine CW.region ?_
  refine RW.op1 rfl (runs_assign rfl) ?_
  refine RW.done ?_
  refine AQ.next ?_
  refine CW.seq ?_
  refine CW.seq ?_
  -- region 1
  refine CW.region ?_
  refine RW.op1 rfl (runs_move rfl) ?_
  refine RW.op1 rfl (RdL.len Try.underlying22 rfl hv) ?_
  refine RW.op1 rfl (runs_move rfl) ?_
  refine RW.done ?_
  refine AQ.next ?_
  refine CW.block ?_
  -- loop 1
  refine CW.loop Nat (fun k w => St w0 w I L ∧ k ≤ xs.length ∧ ∀ x ∈ xs.take k, x ≠ n) (fun k => [(0, v), (1, .int .i64 n), (7, .int .i64 (xs.length : Int)), (8, .int .i64 (k : Int))]) (fun k => xs.length - k) ⟨0, ⟨hst, Nat.zero_le _, by simp⟩, ⟨rfl, rfl, rfl, rfl, trivial⟩⟩ ?_
  rintro k w ⟨hstn, hk, hno⟩
  clear hst
  have hst := hstn
  clear hstn
  refine CW.seq ?_
  -- region 2
  refine CW.region ?_
  refine RW.op1 rfl (runs_lss rfl rfl) ?_
  refine RW.done ?_
  refine AQ.next ?_
  refine CW.seq ?_
  refine CW.cond rfl (fun hc9 => ?_) (fun hc9 => ?_)
  · have hcb9 := hc9
    try simp only [decide_eq_true_eq, decide_eq_false_iff_not] at hc9
    have hk1 : k < xs.length := by omega
    have hig := iat_get hk1
    refine CW.skip ?_
    refine AQ.next ?_
    refine CW.seq ?_
    refine CW.block ?_
    refine CW.seq ?_
    -- region 3
    refine CW.region ?_
    refine RW.op1 rfl (runs_move rfl) ?_
    refine RW.op1 rfl (runs_assign rfl) ?_
    refine RW.done ?_
    refine AQ.next ?_
    refine CW.seq ?_
    -- region 4
    refine CW.region ?_
    refine RW.op1 rfl (runs_move rfl) ?_
    refine RW.op1 rfl (runs_move rfl) ?_
    refine RW.op1 rfl (runs_move rfl) ?_
    refine RW.op1 rfl (RdL.indexAddr Try.underlying22 ti3 (by decide) rfl rfl hv (by omega)) ?_
    refine RW.op1 rfl (runs_load1 sc3 rfl (hst.cell_imm (RdI.at hv (by omega) (by omega)))) ?_
    refine RW.op1 rfl (runs_eqI rfl rfl) ?_
    refine RW.done ?_
    refine AQ.next ?_
    refine CW.cond rfl (fun hc16 => ?_) (fun hc16 => ?_)
    · have hcb16 := hc16
      try simp only [decide_eq_true_eq, decide_eq_false_iff_not] at hc16
      refine CW.seq ?_
      -- region 5
      refine CW.region ?_
      refine RW.op1 rfl (runs_move rfl) ?_
      refine RW.op1 rfl (runs_assign rfl) ?_
      refine RW.done ?_
      refine AQ.next ?_
      refine CW.ret ?_
      refine AQ.block_ret ?_
      refine AQ.past_ret ?_
      refine AQ.past_ret ?_
      refine AQ.block_ret ?_
      refine AQ.past_ret ?_
      refine AQ.ret1 rfl rfl ?_
      exact ⟨_, rfl, by rw [decide_eq_true (show (0 : Int) ≤ k by omega), decide_eq_true]; rw [hc16, hig]; exact List.getElem_mem _, hst⟩
    · have hcb16 := hc16
      try simp only [decide_eq_true_eq, decide_eq_false_iff_not] at hc16
      refine CW.skip ?_
      refine AQ.block_normal ?_
      refine AQ.next ?_
      -- region 6
      refine CW.region ?_
      refine RW.op1 rfl (runs_add rfl rfl (by omega)) ?_
      refine RW.op1 rfl (runs_move rfl) ?_
      refine RW.done ?_
      exact AQ.again (k + 1) ⟨hst, by omega, all_ne_more hno hk1 (by omega)⟩ ⟨rfl, rfl, rfl, rfl, trivial⟩ (by omega)
  · have hcb9 := hc9
    try simp only [decide_eq_true_eq, decide_eq_false_iff_not] at hc9
    skip
    refine CW.exit ?_
    refine AQ.past_exit ?_
    refine AQ.past_exit ?_
    refine AQ.block_hit ?_
    refine AQ.next ?_
    refine CW.seq ?_
    -- region 7
    refine CW.region ?_
    refine RW.op1 rfl (runs_assign rfl) ?_
    refine RW.done ?_
    refine AQ.next ?_
    refine CW.ret ?_
    refine AQ.ret1 rfl rfl ?_
    refine ⟨_, rfl, ?_, hst⟩
    rw [List.take_of_length_le (by omega)] at hno
    rw [decide_eq_false (show ¬ (0 : Int) ≤ -1 by decide), decide_eq_false (fun h => hno n h rfl)]
set_option maxRecDepth 100000 in
set_option maxHeartbeats 1000000 in
theorem contains_spec {w0 w : World} {I : Imm} {L : Own} (hst : St w0 w I L) {v : Value} {xs : List Int} (hv : RdI I v xs) (n : Int) (hl : xs.length ≤ 1000000) :
    Calls Try.prog 23 #[v, .int .i64 n] w fun e w' => e = .returned (.bool (decide (n ∈ xs))) ∧ St w0 w' I L := by
  refine enter Try.func23 rfl (N := 9) rfl rfl ?_
  simp only [List.zipIdx_cons, List.zipIdx_nil, List.map_cons, List.map_nil, Nat.zero_add, Nat.reduceAdd]
  have hle := Imm.le.refl I
  refine CW.seq ?_
  -- region 0
  refine CW.region ?_
  refine RW.op1 rfl (runs_assign rfl) ?_
  refine RW.done ?_
  refine AQ.next ?_
  refine CW.seq ?_
  -- region 1
  refine CW.region ?_
  refine RW.op1 rfl (runs_move rfl) ?_
  refine RW.op1 rfl (runs_move rfl) ?_
  refine RW.call rfl call28 rfl rfl (index_spec hst hv n hl) ?_
  rintro e w ⟨r, rfl, hr, hstn⟩
  clear hst
  have hst := hstn
  clear hstn
  refine ⟨_, rfl, ?_⟩
  refine RW.op1 rfl (runs_geq rfl rfl) ?_
  refine RW.op1 rfl (runs_assign rfl) ?_
  refine RW.done ?_
  refine AQ.next ?_
  refine CW.ret ?_
  refine AQ.ret1 rfl rfl ?_
  exact ⟨by rw [hr], hst⟩
def codesR : List Int := [408, 429, 500, 502, 503, 504]
set_option maxRecDepth 100000 in
set_option maxHeartbeats 1000000 in
theorem again_spec {w0 w : World} {I : Imm} {L : Own} (hst : St w0 w I L) (n : Int) :
    Calls Try.prog 13 #[.int .i64 n] w fun e w' => ∃ I', Imm.le I I' ∧ e = .returned (.bool (decide (n ∈ codesR))) ∧ St w0 w' I' L := by
  refine enter Try.func13 rfl (N := 6) rfl rfl ?_
  simp only [List.zipIdx_cons, List.zipIdx_nil, List.map_cons, List.map_nil, Nat.zero_add, Nat.reduceAdd]
  have hle := Imm.le.refl I
  refine CW.seq ?_
  -- region 0
  refine CW.region ?_
  refine RW.op1 rfl (runs_assign rfl) ?_
  refine RW.done ?_
  refine AQ.next ?_
  refine CW.seq ?_
  -- region 1
  refine CW.region ?_
  refine RW.opE rfl (runs_lit1R Try.underlying22 ti3 (by decide) rfl rfl rfl (by simp [Value.oneCell']) hst) ?_
  rintro u1 w ⟨I1, hI1, hstn, h1⟩
  clear hst
  have hst := hstn
  clear hstn
  replace hle := hle.trans hI1
  have hC : RdI _ _ codesR := h1
  refine RW.op1 rfl (runs_move rfl) ?_
  refine RW.call rfl call23 rfl rfl (contains_spec hst hC n (by decide)) ?_
  rintro e w ⟨rfl, hstn⟩
  clear hst
  have hst := hstn
  clear hstn
  refine ⟨_, rfl, ?_⟩
  refine RW.op1 rfl (runs_assign rfl) ?_
  refine RW.done ?_
  refine AQ.next ?_
  refine CW.ret ?_
  refine AQ.ret1 rfl rfl ?_
  exact ⟨_, hle, rfl, hst⟩
set_option maxRecDepth 100000 in
set_option maxHeartbeats 1000000 in
theorem refDelay_spec {w0 w : World} {I : Imm} {L : Own} (hst : St w0 w I L) (t : Int) :
    Calls Try.prog 16 #[.int .i64 t] w fun e w' => e = .returned (.int .i64 (delayR t)) ∧ St w0 w' I L := by
  refine enter Try.func16 rfl (N := 18) rfl rfl ?_
  simp only [List.zipIdx_cons, List.zipIdx_nil, List.map_cons, List.map_nil, Nat.zero_add, Nat.reduceAdd]
  have hle := Imm.le.refl I
  refine CW.seq ?_
  -- region 0
  refine CW.region ?_
  refine RW.op1 rfl (runs_assign rfl) ?_
  refine RW.done ?_
  refine AQ.next ?_
  refine CW.seq ?_
  -- region 1
  refine CW.region ?_
  refine RW.op1 rfl (runs_assign rfl) ?_
  refine RW.done ?_
  refine AQ.next ?_
  refine CW.seq ?_
  refine CW.seq ?_
  -- region 2
  refine CW.region ?_
  refine RW.op1 rfl (runs_assign rfl) ?_
  refine RW.done ?_
  refine AQ.next ?_
  refine CW.block ?_
  -- loop 1
  refine CW.loop (Nat × Int) (fun x w => St w0 w I L ∧ (x.1 = 0 ∧ x.2 = 1 ∨ x.1 = 1 ∧ x.2 = 2 ∨ x.1 = 2 ∧ x.2 = 4 ∨ x.1 = 3 ∧ x.2 = 8 ∨ x.1 = 4 ∧ x.2 = 16) ∧ (x.1 = 0 ∨ (x.1 : Int) ≤ t)) (fun x => [(0, .int .i64 t), (3, .int .i64 x.2), (4, .int .i64 (x.1 : Int))]) (fun x => 5 - x.1) ⟨(0, 1), ⟨hst, .inl ⟨rfl, rfl⟩, .inl rfl⟩, ⟨rfl, rfl, rfl, trivial⟩⟩ ?_
  rintro ⟨k, o⟩ w ⟨hstn, hko, hkt⟩
  dsimp only at hstn hko hkt ⊢
  clear hst
  have hst := hstn
  clear hstn
  refine CW.seq ?_
  refine CW.seq ?_
  -- region 3
  refine CW.region ?_
  refine RW.op1 rfl (runs_move rfl) ?_
  refine RW.op1 rfl (runs_move rfl) ?_
  refine RW.op1 rfl (runs_lss rfl rfl) ?_
  refine RW.op1 rfl (runs_move rfl) ?_
  refine RW.split (t := 8) rfl (fun hb8 => ?_) (fun hb8 => ?_)
  · have hb8p := hb8
    try simp only [decide_eq_true_eq, decide_eq_false_iff_not] at hb8p
    refine RW.on_guard rfl rfl rfl rfl hb8 ?_
    refine RW.op1 rfl (runs_move rfl) ?_
    refine RW.on_guard rfl rfl rfl rfl hb8 ?_
    refine RW.op1 rfl (runs_lss rfl rfl) ?_
    refine RW.op1 rfl (runs_pick_true rfl hb8 rfl) ?_
    refine RW.done ?_
    refine AQ.next ?_
    refine CW.cond rfl (fun hc11 => ?_) (fun hc11 => ?_)
    · have hcb11 := hc11
      try simp only [decide_eq_true_eq, decide_eq_false_iff_not] at hc11
      refine CW.skip ?_
      refine AQ.next ?_
      refine CW.seq ?_
      refine CW.block ?_
      -- region 5
      refine CW.region ?_
      refine RW.op1 rfl (runs_move rfl) ?_
      refine RW.op1 rfl (runs_mul rfl rfl (by omega)) ?_
      refine RW.op1 rfl (runs_assign rfl) ?_
      refine RW.done ?_
      refine AQ.block_normal ?_
      refine AQ.next ?_
      -- region 4
      refine CW.region ?_
      refine RW.op1 rfl (runs_move rfl) ?_
      refine RW.op1 rfl (runs_add rfl rfl (by omega)) ?_
      refine RW.op1 rfl (runs_assign rfl) ?_
      refine RW.done ?_
      exact AQ.again (x := (k, o)) (k + 1, o * 2) ⟨hst, by dsimp only; omega, by dsimp only; omega⟩ ⟨rfl, rfl, rfl, trivial⟩ (by dsimp only; omega)
    · have hcb11 := hc11
      try simp only [decide_eq_true_eq, decide_eq_false_iff_not] at hc11
      refine CW.exit ?_
      refine AQ.past_exit ?_
      refine AQ.past_exit ?_
      refine AQ.block_hit ?_
      refine AQ.next ?_
      refine CW.seq ?_
      -- region 6
      refine CW.region ?_
      refine RW.op1 rfl (runs_move rfl) ?_
      refine RW.op1 rfl (runs_min rfl rfl) ?_
      refine RW.op1 rfl (runs_assign rfl) ?_
      refine RW.done ?_
      refine AQ.next ?_
      refine CW.ret ?_
      refine AQ.ret1 rfl rfl ?_
      exact ⟨by unfold delayR; congr 2; split <;> (repeat' split) <;> omega, hst⟩
  · have hb8p := hb8
    try simp only [decide_eq_true_eq, decide_eq_false_iff_not] at hb8p
    refine RW.off_guard rfl rfl rfl rfl hb8 ?_
    refine RW.off_guard rfl rfl rfl rfl hb8 ?_
    refine RW.op1 rfl (runs_pick_false rfl hb8 rfl) ?_
    refine RW.done ?_
    refine AQ.next ?_
    refine CW.cond_false rfl ?_
    refine CW.exit ?_
    refine AQ.past_exit ?_
    refine AQ.past_exit ?_
    refine AQ.block_hit ?_
    refine AQ.next ?_
    refine CW.seq ?_
    -- region 6
    refine CW.region ?_
    refine RW.op1 rfl (runs_move rfl) ?_
    refine RW.op1 rfl (runs_min rfl rfl) ?_
    refine RW.op1 rfl (runs_assign rfl) ?_
    refine RW.done ?_
    refine AQ.next ?_
    refine CW.ret ?_
    refine AQ.ret1 rfl rfl ?_
    exact ⟨by unfold delayR; congr 2; split <;> (repeat' split) <;> omega, hst⟩
end Go.Proofs.YtdelipmhginegaaX
