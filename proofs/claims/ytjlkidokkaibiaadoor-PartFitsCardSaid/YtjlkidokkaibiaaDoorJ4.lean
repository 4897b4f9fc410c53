/- A body's size; whether a piece fits: what these come to. -/
import Derived.Test.YtjlkidokkaibiaaDoorT
import Derived.Test.YtjlkidokkaibiaaDoorJ3
namespace Go.Proofs.YtjlkidokkaibiaaDoorX
set_option linter.unusedVariables false
set_option linter.unusedSimpArgs false
open Go Go.RowKit Go.Proofs

def HSm (hs : List HRow) : Prop := (∀ r ∈ hs, r.1.size ≤ 9223372036854775807 ∧ r.2.size ≤ 9223372036854775807) ∧ hs.length ≤ 1000000
theorem HSm.names {hs : List HRow} (h : HSm hs) : ∀ r ∈ hs, r.1.size ≤ 9223372036854775807 := fun r hr => by have := (h.1 r hr).1; omega
theorem HSm.val {hs : List HRow} (h : HSm hs) (n : ByteArray) : (getH n hs).1.size ≤ 9223372036854775807 := by
  unfold getH
  cases hf : hs.find? (fun r => lowEq r.1 n) with
  | none => exact Nat.zero_le _
  | some r => exact (h.1 r (List.mem_of_find?_eq_some hf)).2
def clenS : ByteArray := ⟨#[99, 111, 110, 116, 101, 110, 116, 45, 108, 101, 110, 103, 116, 104]⟩
def cranS : ByteArray := ⟨#[99, 111, 110, 116, 101, 110, 116, 45, 114, 97, 110, 103, 101]⟩
def sizeR (hs : List HRow) (body : ByteArray) : Int × Bool := if (getH clenS hs).2 = false then ((body.size : Int), true) else ((numberR (getH clenS hs).1.toList).getD 0, (numberR (getH clenS hs).1.toList).isSome)
set_option maxRecDepth 100000 in
set_option maxHeartbeats 1000000 in
theorem size_spec {w0 w : World} {I : Imm} {L : Own} (hst : St w0 w I L) (code : Int) (cut : Bool) {vh : Value} {hs : List HRow} (body : ByteArray) (hv : RdH I vh hs) (hok : HSm hs) :
    Calls Tryd.prog 33 #[.agg #[.int .i64 code, vh, .string body, .bool cut]] w fun e w' => ∃ I', Imm.le I I' ∧ e = .returned (.tuple #[.int .i64 (sizeR hs body).1, .bool (sizeR hs body).2]) ∧ St w0 w' I' L := by
  obtain ⟨_, _, hA, hcap, rfl, _, _⟩ := id hv
  refine enter Tryd.func33 rfl (N := 21) rfl rfl ?_
  simp only [List.zipIdx_cons, List.zipIdx_nil, List.map_cons, List.map_nil, Nat.zero_add, Nat.reduceAdd]
  have hle := Imm.le.refl I
  refine CW.seq ?_
  -- region 0
  refine CW.region ?_
  refine RW.opE rfl (runs_box rfl hst) ?_
  rintro _ w ⟨b1, rfl, hstn⟩
  clear hst
  have hst := hstn
  clear hstn
  refine RW.op1 rfl (runs_assign rfl) ?_
  refine RW.op1 rfl (runs_assign rfl) ?_
  refine RW.done ?_
  refine AQ.next ?_
  refine CW.seq ?_
  -- region 1
  refine CW.region ?_
  first
    | refine RW.op1 rfl (runs_fieldAddr0 rfl Tryd.underlying45 rfl ti31 (by decide)) ?_
    | refine RW.op1 rfl (runs_fieldAddr rfl Tryd.underlying45 rfl ti31 (by decide)) ?_
  first
    | refine RW.op1 rfl (runs_load1 sc31 rfl (hst.cell_own (k := 0) rfl rfl)) ?_
    | refine RW.op1 rfl (runs_load1 sc31 rfl (hst.cell_own (k := 1) rfl rfl)) ?_
    | refine RW.op1 rfl (runs_load1 sc31 rfl (hst.cell_own (k := 2) rfl rfl)) ?_
  refine RW.call rfl call22 rfl rfl (get_spec hst clenS (by decide) hv hok.names hok.2) ?_
  rintro e w ⟨I2, hI2, rfl, hstn⟩
  clear hst
  have hst := hstn
  clear hstn
  replace hle := hle.trans hI2
  refine ⟨_, rfl, ?_⟩
  refine RW.op1 rfl (runs_move rfl) ?_
  refine RW.op1 rfl (runs_extract rfl rfl) ?_
  refine RW.op1 rfl (runs_extract rfl rfl) ?_
  refine RW.op1 rfl (runs_assign rfl) ?_
  refine RW.op1 rfl (runs_assign rfl) ?_
  refine RW.done ?_
  refine AQ.next ?_
  refine CW.seq ?_
  refine CW.seq ?_
  -- region 2
  refine CW.region ?_
  refine RW.op1 rfl (runs_move rfl) ?_
  refine RW.op1 rfl (runs_not rfl) ?_
  refine RW.done ?_
  refine AQ.next ?_
  refine CW.cond rfl (fun hc13 => ?_) (fun hc13 => ?_)
  · have hcb13 := hc13
    try simp only [decide_eq_true_eq, decide_eq_false_iff_not] at hc13
    refine CW.seq ?_
    -- region 3
    refine CW.region ?_
    first
      | refine RW.op1 rfl (runs_fieldAddr0 rfl Tryd.underlying45 rfl ti9 (by decide)) ?_
      | refine RW.op1 rfl (runs_fieldAddr rfl Tryd.underlying45 rfl ti9 (by decide)) ?_
    first
      | refine RW.op1 rfl (runs_load1 sc9 rfl (hst.cell_own (k := 0) rfl rfl)) ?_
      | refine RW.op1 rfl (runs_load1 sc9 rfl (hst.cell_own (k := 1) rfl rfl)) ?_
      | refine RW.op1 rfl (runs_load1 sc9 rfl (hst.cell_own (k := 2) rfl rfl)) ?_
    refine RW.op1 rfl (runs_lenS Tryd.underlying9 rfl) ?_
    refine RW.op1 rfl (runs_assign rfl) ?_
    refine RW.op1 rfl (runs_assign rfl) ?_
    refine RW.done ?_
    refine AQ.next ?_
    refine CW.ret ?_
    refine AQ.past_ret ?_
    refine AQ.ret2 rfl rfl rfl ?_
    have h0 : sizeR hs body = ((body.size : Int), true) := if_pos (by simpa using hc13)
    rw [h0]
    exact ⟨_, hle, rfl, hst.drop1⟩
  · have hcb13 := hc13
    try simp only [decide_eq_true_eq, decide_eq_false_iff_not] at hc13
    refine CW.skip ?_
    refine AQ.next ?_
    refine CW.seq ?_
    -- region 4
    refine CW.region ?_
    refine RW.op1 rfl (runs_move rfl) ?_
    refine RW.call rfl call26 rfl rfl (number_spec hst (getH clenS hs).1 (by have := hok.val clenS; omega)) ?_
    rintro e w ⟨rfl, hstn⟩
    clear hst
    have hst := hstn
    clear hstn
    refine ⟨_, rfl, ?_⟩
    refine RW.op1 rfl (runs_extract rfl rfl) ?_
    refine RW.op1 rfl (runs_extract rfl rfl) ?_
    refine RW.op1 rfl (runs_assign rfl) ?_
    refine RW.op1 rfl (runs_assign rfl) ?_
    refine RW.done ?_
    refine AQ.next ?_
    refine CW.ret ?_
    refine AQ.ret2 rfl rfl rfl ?_
    have h0 : sizeR hs body = ((numberR (getH clenS hs).1.toList).getD 0, (numberR (getH clenS hs).1.toList).isSome) := if_neg (by simpa using hc13)
    rw [h0]
    exact ⟨_, hle, rfl, hst.drop1⟩
theorem pow_pos10 (n : Nat) : (0 : Int) < 10 ^ n := Int.pow_pos (by decide)
theorem fold_rng : ∀ (l : List UInt8) (x : Int), l.all isDigit = true → 0 ≤ x → 0 ≤ l.foldl digStep x ∧ l.foldl digStep x < (x + 1) * 10 ^ l.length
  | [], x, _, h => ⟨h, by simp; omega⟩
  | c :: r, x, ha, h => by
    rw [List.all_cons, Bool.and_eq_true] at ha
    have hc : 48 ≤ c.toNat ∧ c.toNat ≤ 57 := by have := ha.1; unfold isDigit at this; simpa using this
    have hs : digStep x c = 10 * x + ((c.toNat : Int) - 48) := rfl
    have ih := fold_rng r (digStep x c) ha.2 (by rw [hs]; omega)
    refine ⟨ih.1, Int.lt_of_lt_of_le ih.2 ?_⟩
    rw [List.length_cons, Int.pow_succ, Int.mul_comm (10 ^ r.length) 10, ← Int.mul_assoc]
    exact Int.mul_le_mul_of_nonneg_right (by rw [hs]; omega) (Int.le_of_lt (pow_pos10 _))
theorem number_rng (l : List UInt8) : 0 ≤ (numberR l).getD 0 ∧ (numberR l).getD 0 ≤ 999999 := by
  unfold numberR
  split
  · exact ⟨by decide, by decide⟩
  · rename_i hl
    split
    · rename_i ha
      have h := fold_rng l 0 ha (Int.le_refl _)
      have h6 : (10 : Int) ^ l.length ≤ 10 ^ 6 := by
        have : (10 : Nat) ^ l.length ≤ 10 ^ 6 := Nat.pow_le_pow_right (by decide) (by omega)
        exact_mod_cast this
      refine ⟨h.1, ?_⟩
      show l.foldl digStep 0 ≤ 999999
      have h2 := h.2
      have h7 : (10 : Int) ^ 6 = 1000000 := by decide
      rw [h7] at h6
      omega
    · exact ⟨by decide, by decide⟩
theorem span_rng (s : ByteArray) : (0 ≤ (spanR s).1 ∧ (spanR s).1 ≤ 999999) ∧ (0 ≤ (spanR s).2.1 ∧ (spanR s).2.1 ≤ 999999) ∧ (0 ≤ (spanR s).2.2.1 ∧ (spanR s).2.2.1 ≤ 999999) := by
  unfold spanR
  split
  · exact ⟨number_rng _, number_rng _, number_rng _⟩
  · exact ⟨⟨by decide, by decide⟩, ⟨by decide, by decide⟩, ⟨by decide, by decide⟩⟩
def FitOk (code : Int) (hs : List HRow) (body : ByteArray) (got : Int) (tag : ByteArray) : Prop :=
  code = 206 ∧ (tag.toList == ([] : List UInt8)) = false ∧ ((tagR hs).toList == tag.toList) = true ∧ (spanR (getH cranS hs).1).2.2.2 = true ∧ (sizeR hs body).2 = true ∧ (spanR (getH cranS hs).1).1 = got ∧ (spanR (getH cranS hs).1).2.1 = (spanR (getH cranS hs).1).2.2.1 - 1 ∧ (sizeR hs body).1 = (spanR (getH cranS hs).1).2.1 - (spanR (getH cranS hs).1).1 + 1
instance (code : Int) (hs : List HRow) (body : ByteArray) (got : Int) (tag : ByteArray) : Decidable (FitOk code hs body got tag) := by unfold FitOk; infer_instance
def fitsR (code : Int) (hs : List HRow) (body : ByteArray) (got : Int) (tag : ByteArray) : Int × Bool := if FitOk code hs body got tag then ((spanR (getH cranS hs).1).2.2.1, true) else (0, false)
theorem emptyL : (ByteArray.mk #[]).toList = [] := by rw [ByteArray.toList_eq]
set_option maxRecDepth 100000 in
set_option maxHeartbeats 1000000 in
theorem fits_spec {w0 w : World} {I : Imm} {L : Own} (hst : St w0 w I L) (code : Int) (cut : Bool) {vh : Value} {hs : List HRow} (body : ByteArray) (hv : RdH I vh hs) (hok : HSm hs) (got : Int) (tag : ByteArray) :
    Calls Tryd.prog 17 #[.agg #[.int .i64 code, vh, .string body, .bool cut], .int .i64 got, .string tag] w fun e w' => ∃ I', Imm.le I I' ∧ e = .returned (.tuple #[.int .i64 (fitsR code hs body got tag).1, .bool (fitsR code hs body got tag).2]) ∧ St w0 w' I' L := by
  obtain ⟨hA, hcap, hvh⟩ : ∃ A c, vh = .slice A hs.length c := by obtain ⟨_, _, A, c, e, _⟩ := hv; exact ⟨A, c, e⟩
  subst hvh
  have hsr := span_rng (getH cranS hs).1
  refine enter Tryd.func17 rfl (N := 75) rfl rfl ?_
  simp only [List.zipIdx_cons, List.zipIdx_nil, List.map_cons, List.map_nil, Nat.zero_add, Nat.reduceAdd]
  have hle := Imm.le.refl I
  refine CW.seq ?_
  -- region 0
  refine CW.region ?_
  refine RW.opE rfl (runs_box rfl hst) ?_
  rintro _ w ⟨b1, rfl, hstn⟩
  clear hst
  have hst := hstn
  clear hstn
  refine RW.op1 rfl (runs_assign rfl) ?_
  refine RW.op1 rfl (runs_assign rfl) ?_
  refine RW.done ?_
  refine AQ.next ?_
  refine CW.seq ?_
  -- region 1
  refine CW.region ?_
  first
    | refine RW.op1 rfl (runs_fieldAddr0 rfl Tryd.underlying45 rfl ti31 (by decide)) ?_
    | refine RW.op1 rfl (runs_fieldAddr rfl Tryd.underlying45 rfl ti31 (by decide)) ?_
  first
    | refine RW.op1 rfl (runs_load1 sc31 rfl (hst.cell_own (k := 0) rfl rfl)) ?_
    | refine RW.op1 rfl (runs_load1 sc31 rfl (hst.cell_own (k := 1) rfl rfl)) ?_
    | refine RW.op1 rfl (runs_load1 sc31 rfl (hst.cell_own (k := 2) rfl rfl)) ?_
  refine RW.call rfl call22 rfl rfl (get_spec hst cranS (by decide) hv hok.names hok.2) ?_
  rintro e w ⟨I2, hI2, rfl, hstn⟩
  clear hst
  have hst := hstn
  clear hstn
  replace hv := hv.mono hI2
  replace hle := hle.trans hI2
  refine ⟨_, rfl, ?_⟩
  refine RW.op1 rfl (runs_move rfl) ?_
  refine RW.op1 rfl (runs_extract rfl rfl) ?_
  refine RW.op1 rfl (runs_extract rfl rfl) ?_
  refine RW.op1 rfl (runs_assign rfl) ?_
  refine RW.op1 rfl (runs_assign rfl) ?_
  refine RW.done ?_
  refine AQ.next ?_
  refine CW.seq ?_
  -- region 2
  refine CW.region ?_
  refine RW.op1 rfl (runs_move rfl) ?_
  refine RW.call rfl call8 rfl rfl (span_spec hst (getH cranS hs).1 (hok.val cranS)) ?_
  rintro e w ⟨rfl, hstn⟩
  clear hst
  have hst := hstn
  clear hstn
  refine ⟨_, rfl, ?_⟩
  refine RW.op1 rfl (runs_move rfl) ?_
  refine RW.op1 rfl (runs_extract rfl rfl) ?_
  refine RW.op1 rfl (runs_extract rfl rfl) ?_
  refine RW.op1 rfl (runs_extract rfl rfl) ?_
  refine RW.op1 rfl (runs_extract rfl rfl) ?_
  refine RW.op1 rfl (runs_assign rfl) ?_
  refine RW.op1 rfl (runs_assign rfl) ?_
  refine RW.op1 rfl (runs_assign rfl) ?_
  refine RW.op1 rfl (runs_assign rfl) ?_
  refine RW.done ?_
  refine AQ.next ?_
  refine CW.seq ?_
  -- region 3
  refine CW.region ?_
  first
    | refine RW.op1 rfl (runs_loadN (vs := [_, _, _, _]) ag45 ti45 rfl hst (k := 0) rfl rfl rfl) ?_
    | refine RW.op1 rfl (runs_loadN (vs := [_, _, _, _]) ag45 ti45 rfl hst (k := 1) rfl rfl rfl) ?_
    | refine RW.op1 rfl (runs_loadN (vs := [_, _, _, _]) ag45 ti45 rfl hst (k := 2) rfl rfl rfl) ?_
  refine RW.call rfl call33 rfl rfl (size_spec hst code cut body hv hok) ?_
  rintro e w ⟨I4, hI4, rfl, hstn⟩
  clear hst
  have hst := hstn
  clear hstn
  replace hv := hv.mono hI4
  replace hle := hle.trans hI4
  refine ⟨_, rfl, ?_⟩
  refine RW.op1 rfl (runs_move rfl) ?_
  refine RW.op1 rfl (runs_extract rfl rfl) ?_
  refine RW.op1 rfl (runs_extract rfl rfl) ?_
  refine RW.op1 rfl (runs_assign rfl) ?_
  refine RW.op1 rfl (runs_assign rfl) ?_
  refine RW.done ?_
  refine AQ.next ?_
  refine CW.seq ?_
  refine CW.seq ?_
  -- region 4
  refine CW.cut Imm (fun J w => I.le J ∧ St w0 w J L) (fun _ => [(6, .int .i64 (spanR (getH cranS hs).1).2.2.1), (73, .bool (decide (¬ FitOk code hs body got tag)))]) ?_ ?_
  · -- region 4
    refine CW.region ?_
    first
      | refine RW.op1 rfl (runs_fieldAddr0 rfl Tryd.underlying45 rfl ti3 (by decide)) ?_
      | refine RW.op1 rfl (runs_fieldAddr rfl Tryd.underlying45 rfl ti3 (by decide)) ?_
    first
      | refine RW.op1 rfl (runs_load1 sc3 rfl (hst.cell_own (k := 0) rfl rfl)) ?_
      | refine RW.op1 rfl (runs_load1 sc3 rfl (hst.cell_own (k := 1) rfl rfl)) ?_
      | refine RW.op1 rfl (runs_load1 sc3 rfl (hst.cell_own (k := 2) rfl rfl)) ?_
    refine RW.op1 rfl (runs_neI rfl rfl) ?_
    refine RW.op1 rfl (runs_move rfl) ?_
    refine RW.split (t := 36) rfl (fun hb36 => ?_) (fun hb36 => ?_)
    · have hb36p := hb36
      try simp only [decide_eq_true_eq, decide_eq_false_iff_not] at hb36p
      refine RW.off_guard rfl rfl rfl rfl hb36 ?_
      refine RW.off_guard rfl rfl rfl rfl hb36 ?_
      refine RW.op1 rfl (runs_pick_true rfl hb36 rfl) ?_
      refine RW.op1 rfl (runs_move rfl) ?_
      refine RW.off_guard rfl rfl rfl rfl rfl ?_
      refine RW.off_guard rfl rfl rfl rfl rfl ?_
      refine RW.off_guard rfl rfl rfl rfl rfl ?_
      refine RW.off_guard rfl rfl rfl rfl rfl ?_
      refine RW.off_guard rfl rfl rfl rfl rfl ?_
      refine RW.op1 rfl (runs_pick_true rfl rfl rfl) ?_
      refine RW.op1 rfl (runs_move rfl) ?_
      refine RW.off_guard rfl rfl rfl rfl rfl ?_
      refine RW.off_guard rfl rfl rfl rfl rfl ?_
      refine RW.op1 rfl (runs_pick_true rfl rfl rfl) ?_
      refine RW.op1 rfl (runs_move rfl) ?_
      refine RW.off_guard rfl rfl rfl rfl rfl ?_
      refine RW.off_guard rfl rfl rfl rfl rfl ?_
      refine RW.op1 rfl (runs_pick_true rfl rfl rfl) ?_
      refine RW.op1 rfl (runs_move rfl) ?_
      refine RW.off_guard rfl rfl rfl rfl rfl ?_
      refine RW.off_guard rfl rfl rfl rfl rfl ?_
      refine RW.off_guard rfl rfl rfl rfl rfl ?_
      refine RW.op1 rfl (runs_pick_true rfl rfl rfl) ?_
      refine RW.op1 rfl (runs_move rfl) ?_
      refine RW.off_guard rfl rfl rfl rfl rfl ?_
      refine RW.off_guard rfl rfl rfl rfl rfl ?_
      refine RW.off_guard rfl rfl rfl rfl rfl ?_
      refine RW.off_guard rfl rfl rfl rfl rfl ?_
      refine RW.op1 rfl (runs_pick_true rfl rfl rfl) ?_
      refine RW.op1 rfl (runs_move rfl) ?_
      refine RW.off_guard rfl rfl rfl rfl rfl ?_
      refine RW.off_guard rfl rfl rfl rfl rfl ?_
      refine RW.off_guard rfl rfl rfl rfl rfl ?_
      refine RW.off_guard rfl rfl rfl rfl rfl ?_
      refine RW.off_guard rfl rfl rfl rfl rfl ?_
      refine RW.off_guard rfl rfl rfl rfl rfl ?_
      refine RW.op1 rfl (runs_pick_true rfl rfl rfl) ?_
      refine RW.done ?_
      exact AQ.meet _ ⟨hle, hst.drop1⟩ ⟨rfl, boolN (by unfold FitOk; simp_all [emptyL] <;> omega), trivial⟩
    · have hb36p := hb36
      try simp only [decide_eq_true_eq, decide_eq_false_iff_not] at hb36p
      refine RW.on_guard rfl rfl rfl rfl hb36 ?_
      refine RW.op1 rfl (runs_move rfl) ?_
      refine RW.on_guard rfl rfl rfl rfl hb36 ?_
      refine RW.op1 rfl (runs_eqS rfl rfl) ?_
      refine RW.op1 rfl (runs_pick_false rfl hb36 rfl) ?_
      refine RW.op1 rfl (runs_move rfl) ?_
      refine RW.split (t := 40) rfl (fun hb40 => ?_) (fun hb40 => ?_)
      · have hb40p := hb40
        try simp only [decide_eq_true_eq, decide_eq_false_iff_not] at hb40p
        refine RW.off_guard rfl rfl rfl rfl hb40 ?_
        refine RW.off_guard rfl rfl rfl rfl hb40 ?_
        refine RW.off_guard rfl rfl rfl rfl hb40 ?_
        refine RW.off_guard rfl rfl rfl rfl hb40 ?_
        refine RW.off_guard rfl rfl rfl rfl hb40 ?_
        refine RW.op1 rfl (runs_pick_true rfl hb40 rfl) ?_
        refine RW.op1 rfl (runs_move rfl) ?_
        refine RW.off_guard rfl rfl rfl rfl rfl ?_
        refine RW.off_guard rfl rfl rfl rfl rfl ?_
        refine RW.op1 rfl (runs_pick_true rfl rfl rfl) ?_
        refine RW.op1 rfl (runs_move rfl) ?_
        refine RW.off_guard rfl rfl rfl rfl rfl ?_
        refine RW.off_guard rfl rfl rfl rfl rfl ?_
        refine RW.op1 rfl (runs_pick_true rfl rfl rfl) ?_
        refine RW.op1 rfl (runs_move rfl) ?_
        refine RW.off_guard rfl rfl rfl rfl rfl ?_
        refine RW.off_guard rfl rfl rfl rfl rfl ?_
        refine RW.off_guard rfl rfl rfl rfl rfl ?_
        refine RW.op1 rfl (runs_pick_true rfl rfl rfl) ?_
        refine RW.op1 rfl (runs_move rfl) ?_
        refine RW.off_guard rfl rfl rfl rfl rfl ?_
        refine RW.off_guard rfl rfl rfl rfl rfl ?_
        refine RW.off_guard rfl rfl rfl rfl rfl ?_
        refine RW.off_guard rfl rfl rfl rfl rfl ?_
        refine RW.op1 rfl (runs_pick_true rfl rfl rfl) ?_
        refine RW.op1 rfl (runs_move rfl) ?_
        refine RW.off_guard rfl rfl rfl rfl rfl ?_
        refine RW.off_guard rfl rfl rfl rfl rfl ?_
        refine RW.off_guard rfl rfl rfl rfl rfl ?_
        refine RW.off_guard rfl rfl rfl rfl rfl ?_
        refine RW.off_guard rfl rfl rfl rfl rfl ?_
        refine RW.off_guard rfl rfl rfl rfl rfl ?_
        refine RW.op1 rfl (runs_pick_true rfl rfl rfl) ?_
        refine RW.done ?_
        exact AQ.meet _ ⟨hle, hst.drop1⟩ ⟨rfl, boolN (by unfold FitOk; simp_all [emptyL] <;> omega), trivial⟩
      · have hb40p := hb40
        try simp only [decide_eq_true_eq, decide_eq_false_iff_not] at hb40p
        refine RW.on_guard rfl rfl rfl rfl hb40 ?_
        first
          | refine RW.op1 rfl (runs_fieldAddr0 rfl Tryd.underlying45 rfl ti31 (by decide)) ?_
          | refine RW.op1 rfl (runs_fieldAddr rfl Tryd.underlying45 rfl ti31 (by decide)) ?_
        refine RW.on_guard rfl rfl rfl rfl hb40 ?_
        first
          | refine RW.op1 rfl (runs_load1 sc31 rfl (hst.cell_own (k := 0) rfl rfl)) ?_
          | refine RW.op1 rfl (runs_load1 sc31 rfl (hst.cell_own (k := 1) rfl rfl)) ?_
          | refine RW.op1 rfl (runs_load1 sc31 rfl (hst.cell_own (k := 2) rfl rfl)) ?_
        refine RW.on_guard rfl rfl rfl rfl hb40 ?_
        refine RW.call rfl call7 rfl rfl (tag_spec hst hv hok.names (by have := hok.val etagS; omega) hok.2) ?_
        rintro e w ⟨I5, hI5, rfl, hstn⟩
        clear hst
        have hst := hstn
        clear hstn
        replace hv := hv.mono hI5
        replace hle := hle.trans hI5
        refine ⟨_, rfl, ?_⟩
        refine RW.on_guard rfl rfl rfl rfl hb40 ?_
        refine RW.op1 rfl (runs_move rfl) ?_
        refine RW.on_guard rfl rfl rfl rfl hb40 ?_
        refine RW.op1 rfl (runs_neS rfl rfl) ?_
        refine RW.op1 rfl (runs_pick_false rfl hb40 rfl) ?_
        refine RW.op1 rfl (runs_move rfl) ?_
        refine RW.split (t := 47) rfl (fun hb47 => ?_) (fun hb47 => ?_)
        · have hb47p := hb47
          try simp only [decide_eq_true_eq, decide_eq_false_iff_not] at hb47p
          refine RW.off_guard rfl rfl rfl rfl hb47 ?_
          refine RW.off_guard rfl rfl rfl rfl hb47 ?_
          refine RW.op1 rfl (runs_pick_true rfl hb47 rfl) ?_
          refine RW.op1 rfl (runs_move rfl) ?_
          refine RW.off_guard rfl rfl rfl rfl rfl ?_
          refine RW.off_guard rfl rfl rfl rfl rfl ?_
          refine RW.op1 rfl (runs_pick_true rfl rfl rfl) ?_
          refine RW.op1 rfl (runs_move rfl) ?_
          refine RW.off_guard rfl rfl rfl rfl rfl ?_
          refine RW.off_guard rfl rfl rfl rfl rfl ?_
          refine RW.off_guard rfl rfl rfl rfl rfl ?_
          refine RW.op1 rfl (runs_pick_true rfl rfl rfl) ?_
          refine RW.op1 rfl (runs_move rfl) ?_
          refine RW.off_guard rfl rfl rfl rfl rfl ?_
          refine RW.off_guard rfl rfl rfl rfl rfl ?_
          refine RW.off_guard rfl rfl rfl rfl rfl ?_
          refine RW.off_guard rfl rfl rfl rfl rfl ?_
          refine RW.op1 rfl (runs_pick_true rfl rfl rfl) ?_
          refine RW.op1 rfl (runs_move rfl) ?_
          refine RW.off_guard rfl rfl rfl rfl rfl ?_
          refine RW.off_guard rfl rfl rfl rfl rfl ?_
          refine RW.off_guard rfl rfl rfl rfl rfl ?_
          refine RW.off_guard rfl rfl rfl rfl rfl ?_
          refine RW.off_guard rfl rfl rfl rfl rfl ?_
          refine RW.off_guard rfl rfl rfl rfl rfl ?_
          refine RW.op1 rfl (runs_pick_true rfl rfl rfl) ?_
          refine RW.done ?_
          exact AQ.meet _ ⟨hle, hst.drop1⟩ ⟨rfl, boolN (by unfold FitOk; simp_all [emptyL] <;> omega), trivial⟩
        · have hb47p := hb47
          try simp only [decide_eq_true_eq, decide_eq_false_iff_not] at hb47p
          refine RW.on_guard rfl rfl rfl rfl hb47 ?_
          refine RW.op1 rfl (runs_move rfl) ?_
          refine RW.on_guard rfl rfl rfl rfl hb47 ?_
          refine RW.op1 rfl (runs_not rfl) ?_
          refine RW.op1 rfl (runs_pick_false rfl hb47 rfl) ?_
          refine RW.op1 rfl (runs_move rfl) ?_
          refine RW.split (t := 51) rfl (fun hb51 => ?_) (fun hb51 => ?_)
          · have hb51p := hb51
            try simp only [decide_eq_true_eq, decide_eq_false_iff_not] at hb51p
            refine RW.off_guard rfl rfl rfl rfl hb51 ?_
            refine RW.off_guard rfl rfl rfl rfl hb51 ?_
            refine RW.op1 rfl (runs_pick_true rfl hb51 rfl) ?_
            refine RW.op1 rfl (runs_move rfl) ?_
            refine RW.off_guard rfl rfl rfl rfl rfl ?_
            refine RW.off_guard rfl rfl rfl rfl rfl ?_
            refine RW.off_guard rfl rfl rfl rfl rfl ?_
            refine RW.op1 rfl (runs_pick_true rfl rfl rfl) ?_
            refine RW.op1 rfl (runs_move rfl) ?_
            refine RW.off_guard rfl rfl rfl rfl rfl ?_
            refine RW.off_guard rfl rfl rfl rfl rfl ?_
            refine RW.off_guard rfl rfl rfl rfl rfl ?_
            refine RW.off_guard rfl rfl rfl rfl rfl ?_
            refine RW.op1 rfl (runs_pick_true rfl rfl rfl) ?_
            refine RW.op1 rfl (runs_move rfl) ?_
            refine RW.off_guard rfl rfl rfl rfl rfl ?_
            refine RW.off_guard rfl rfl rfl rfl rfl ?_
            refine RW.off_guard rfl rfl rfl rfl rfl ?_
            refine RW.off_guard rfl rfl rfl rfl rfl ?_
            refine RW.off_guard rfl rfl rfl rfl rfl ?_
            refine RW.off_guard rfl rfl rfl rfl rfl ?_
            refine RW.op1 rfl (runs_pick_true rfl rfl rfl) ?_
            refine RW.done ?_
            exact AQ.meet _ ⟨hle, hst.drop1⟩ ⟨rfl, boolN (by unfold FitOk; simp_all [emptyL] <;> omega), trivial⟩
          · have hb51p := hb51
            try simp only [decide_eq_true_eq, decide_eq_false_iff_not] at hb51p
            refine RW.on_guard rfl rfl rfl rfl hb51 ?_
            refine RW.op1 rfl (runs_move rfl) ?_
            refine RW.on_guard rfl rfl rfl rfl hb51 ?_
            refine RW.op1 rfl (runs_not rfl) ?_
            refine RW.op1 rfl (runs_pick_false rfl hb51 rfl) ?_
            refine RW.op1 rfl (runs_move rfl) ?_
            refine RW.split (t := 55) rfl (fun hb55 => ?_) (fun hb55 => ?_)
            · have hb55p := hb55
              try simp only [decide_eq_true_eq, decide_eq_false_iff_not] at hb55p
              refine RW.off_guard rfl rfl rfl rfl hb55 ?_
              refine RW.off_guard rfl rfl rfl rfl hb55 ?_
              refine RW.off_guard rfl rfl rfl rfl hb55 ?_
              refine RW.op1 rfl (runs_pick_true rfl hb55 rfl) ?_
              refine RW.op1 rfl (runs_move rfl) ?_
              refine RW.off_guard rfl rfl rfl rfl rfl ?_
              refine RW.off_guard rfl rfl rfl rfl rfl ?_
              refine RW.off_guard rfl rfl rfl rfl rfl ?_
              refine RW.off_guard rfl rfl rfl rfl rfl ?_
              refine RW.op1 rfl (runs_pick_true rfl rfl rfl) ?_
              refine RW.op1 rfl (runs_move rfl) ?_
              refine RW.off_guard rfl rfl rfl rfl rfl ?_
              refine RW.off_guard rfl rfl rfl rfl rfl ?_
              refine RW.off_guard rfl rfl rfl rfl rfl ?_
              refine RW.off_guard rfl rfl rfl rfl rfl ?_
              refine RW.off_guard rfl rfl rfl rfl rfl ?_
              refine RW.off_guard rfl rfl rfl rfl rfl ?_
              refine RW.op1 rfl (runs_pick_true rfl rfl rfl) ?_
              refine RW.done ?_
              exact AQ.meet _ ⟨hle, hst.drop1⟩ ⟨rfl, boolN (by unfold FitOk; simp_all [emptyL] <;> omega), trivial⟩
            · have hb55p := hb55
              try simp only [decide_eq_true_eq, decide_eq_false_iff_not] at hb55p
              refine RW.on_guard rfl rfl rfl rfl hb55 ?_
              refine RW.op1 rfl (runs_move rfl) ?_
              refine RW.on_guard rfl rfl rfl rfl hb55 ?_
              refine RW.op1 rfl (runs_move rfl) ?_
              refine RW.on_guard rfl rfl rfl rfl hb55 ?_
              refine RW.op1 rfl (runs_neI rfl rfl) ?_
              refine RW.op1 rfl (runs_pick_false rfl hb55 rfl) ?_
              refine RW.op1 rfl (runs_move rfl) ?_
              refine RW.split (t := 60) rfl (fun hb60 => ?_) (fun hb60 => ?_)
              · have hb60p := hb60
                try simp only [decide_eq_true_eq, decide_eq_false_iff_not] at hb60p
                refine RW.off_guard rfl rfl rfl rfl hb60 ?_
                refine RW.off_guard rfl rfl rfl rfl hb60 ?_
                refine RW.off_guard rfl rfl rfl rfl hb60 ?_
                refine RW.off_guard rfl rfl rfl rfl hb60 ?_
                refine RW.op1 rfl (runs_pick_true rfl hb60 rfl) ?_
                refine RW.op1 rfl (runs_move rfl) ?_
                refine RW.off_guard rfl rfl rfl rfl rfl ?_
                refine RW.off_guard rfl rfl rfl rfl rfl ?_
                refine RW.off_guard rfl rfl rfl rfl rfl ?_
                refine RW.off_guard rfl rfl rfl rfl rfl ?_
                refine RW.off_guard rfl rfl rfl rfl rfl ?_
                refine RW.off_guard rfl rfl rfl rfl rfl ?_
                refine RW.op1 rfl (runs_pick_true rfl rfl rfl) ?_
                refine RW.done ?_
                exact AQ.meet _ ⟨hle, hst.drop1⟩ ⟨rfl, boolN (by unfold FitOk; simp_all [emptyL] <;> omega), trivial⟩
              · have hb60p := hb60
                try simp only [decide_eq_true_eq, decide_eq_false_iff_not] at hb60p
                refine RW.on_guard rfl rfl rfl rfl hb60 ?_
                refine RW.op1 rfl (runs_move rfl) ?_
                refine RW.on_guard rfl rfl rfl rfl hb60 ?_
                refine RW.op1 rfl (runs_move rfl) ?_
                refine RW.on_guard rfl rfl rfl rfl hb60 ?_
                refine RW.op1 rfl (runs_sub rfl rfl (by omega)) ?_
                refine RW.on_guard rfl rfl rfl rfl hb60 ?_
                refine RW.op1 rfl (runs_neI rfl rfl) ?_
                refine RW.op1 rfl (runs_pick_false rfl hb60 rfl) ?_
                refine RW.op1 rfl (runs_move rfl) ?_
                refine RW.split (t := 66) rfl (fun hb66 => ?_) (fun hb66 => ?_)
                · have hb66p := hb66
                  try simp only [decide_eq_true_eq, decide_eq_false_iff_not] at hb66p
                  refine RW.off_guard rfl rfl rfl rfl hb66 ?_
                  refine RW.off_guard rfl rfl rfl rfl hb66 ?_
                  refine RW.off_guard rfl rfl rfl rfl hb66 ?_
                  refine RW.off_guard rfl rfl rfl rfl hb66 ?_
                  refine RW.off_guard rfl rfl rfl rfl hb66 ?_
                  refine RW.off_guard rfl rfl rfl rfl hb66 ?_
                  refine RW.op1 rfl (runs_pick_true rfl hb66 rfl) ?_
                  refine RW.done ?_
                  exact AQ.meet _ ⟨hle, hst.drop1⟩ ⟨rfl, boolN (by unfold FitOk; simp_all [emptyL] <;> omega), trivial⟩
                · have hb66p := hb66
                  try simp only [decide_eq_true_eq, decide_eq_false_iff_not] at hb66p
                  refine RW.on_guard rfl rfl rfl rfl hb66 ?_
                  refine RW.op1 rfl (runs_move rfl) ?_
                  refine RW.on_guard rfl rfl rfl rfl hb66 ?_
                  refine RW.op1 rfl (runs_move rfl) ?_
                  refine RW.on_guard rfl rfl rfl rfl hb66 ?_
                  refine RW.op1 rfl (runs_move rfl) ?_
                  refine RW.on_guard rfl rfl rfl rfl hb66 ?_
                  refine RW.op1 rfl (runs_sub rfl rfl (by omega)) ?_
                  refine RW.on_guard rfl rfl rfl rfl hb66 ?_
                  refine RW.op1 rfl (runs_add rfl rfl (by omega)) ?_
                  refine RW.on_guard rfl rfl rfl rfl hb66 ?_
                  refine RW.op1 rfl (runs_neI rfl rfl) ?_
                  refine RW.op1 rfl (runs_pick_false rfl hb66 rfl) ?_
                  refine RW.done ?_
                  exact AQ.meet _ ⟨hle, hst.drop1⟩ ⟨rfl, boolN (by unfold FitOk; simp_all [emptyL] <;> omega), trivial⟩
  · clear hle hst
    rintro J w ⟨hle, hst⟩
    refine AQ.next ?_
    refine CW.cond rfl (fun hc73 => ?_) (fun hc73 => ?_)
    · have hcb73 := hc73
      try simp only [decide_eq_true_eq, decide_eq_false_iff_not] at hc73
      refine CW.seq ?_
      -- region 5
      refine CW.region ?_
      refine RW.op1 rfl (runs_assign rfl) ?_
      refine RW.op1 rfl (runs_assign rfl) ?_
      refine RW.done ?_
      refine AQ.next ?_
      refine CW.ret ?_
      refine AQ.past_ret ?_
      refine AQ.ret2 rfl rfl rfl ?_
      have h0 : fitsR code hs body got tag = (0, false) := if_neg (by simpa using hc73)
      rw [h0]
      exact ⟨_, hle, rfl, hst⟩
    · have hcb73 := hc73
      try simp only [decide_eq_true_eq, decide_eq_false_iff_not] at hc73
      refine CW.skip ?_
      refine AQ.next ?_
      refine CW.seq ?_
      -- region 6
      refine CW.region ?_
      refine RW.op1 rfl (runs_move rfl) ?_
      refine RW.op1 rfl (runs_assign rfl) ?_
      refine RW.op1 rfl (runs_assign rfl) ?_
      refine RW.done ?_
      refine AQ.next ?_
      refine CW.ret ?_
      refine AQ.ret2 rfl rfl rfl ?_
      have h0 : fitsR code hs body got tag = ((spanR (getH cranS hs).1).2.2.1, true) := if_pos (by simpa using hc73)
      rw [h0]
      exact ⟨_, hle, rfl, hst⟩
end Go.Proofs.YtjlkidokkaibiaaDoorX
