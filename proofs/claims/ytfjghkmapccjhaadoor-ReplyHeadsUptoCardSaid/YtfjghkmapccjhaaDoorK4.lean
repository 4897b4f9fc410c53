/- Lines cut, blanks trimmed, codes, names, values, one header: what these come to. -/
import Derived.Test.YtfjghkmapccjhaaDoorT
import Derived.Test.YtfjghkmapccjhaaDoorJ10
import Derived.Test.YtfjghkmapccjhaaDoorK3
import Derived.Test.YtfjghkmapccjhaaDoorXW
import Derived.Test.YtfjghkmapccjhaaDoorXU
import Derived.Test.YtfjghkmapccjhaaDoorSH
namespace Go.Proofs.YtfjghkmapccjhaaDoorX
set_option linter.unusedVariables false
set_option linter.unusedSimpArgs false
open Go Go.RowKit Go.Proofs

def crS : ByteArray := ⟨#[13, 10]⟩
def hrowL (h : HL) : HRow := (strOf h.1, strOf h.2)
theorem strOf_data (l : List UInt8) : (⟨l.toArray⟩ : ByteArray) = strOf l := rfl
theorem cutC_spec {w0 w : World} {I : Imm} {L : Own} (hst : St w0 w I L) (hM : MaxK I) (s : ByteArray) (hs : s.size < 4294967281) :
    Calls Tryd.prog 21 #[.string s, .string crS] w fun e w' => e = .returned (.tuple #[.string (strOf (Lib.cut s.toList crL).1), .string (strOf (Lib.cut s.toList crL).2.1), .bool (Lib.cut s.toList crL).2.2]) ∧ St w0 w' I L := by
  obtain ⟨m, hm⟩ := hM
  refine (Tryd.strings_Cut s crS m w hs (hst.cell_imm hm)).mono ?_
  rintro e w' ⟨rfl, n, rfl⟩
  refine ⟨?_, hst.drawnN n⟩
  rw [ByteArray.toList_eq]
  rfl
theorem trim1_spec {w0 w : World} {I : Imm} {L : Own} (hst : St w0 w I L) (s : ByteArray) (hs : s.size ≤ 9223372036854775807) :
    Calls Tryd.prog 45 #[.string s, .string ⟨#[32]⟩] w fun e w' => e = .returned (.string (strOf (Lib.trimB s.toList 32))) ∧ St w0 w' I L := by
  refine (Tryd.strings_Trim_one s 32 (by decide) w hs).mono ?_
  rintro e w' ⟨rfl, rfl | rfl⟩
  · exact ⟨by rw [ByteArray.toList_eq]; rfl, hst⟩
  · exact ⟨by rw [ByteArray.toList_eq]; rfl, hst.drawnN 1⟩
def httpS : ByteArray := ⟨#[72, 84, 84, 80, 47, 49, 46, 49, 32]⟩
theorem http_pre (s : ByteArray) : preS s httpS = (decide (9 ≤ s.toList.length) && (s.toList.take 9 == httpL)) := by
  unfold preS
  rw [extract_list, show httpS.toList = httpL by rw [ByteArray.toList_eq]; rfl, List.drop_zero, Nat.sub_zero, show httpS.size = 9 from rfl, ← size_toList]
  rw [show decide (((9 : Nat) : Int) ≤ (s.toList.length : Int)) = decide (9 ≤ s.toList.length) by apply decide_eq_decide.2; omega]
theorem code_of {l : List UInt8} (h1 : 12 ≤ l.length) (h2 : (l.take 9 == httpL) = true) : codeL l = match numberR ((l.drop 9).take 3) with | none => 0 | some n => if n < 100 ∨ 599 < n then 0 else n := by
  unfold codeL
  rw [show (decide (12 ≤ l.length) && (l.take 9 == [72, 84, 84, 80, 47, 49, 46, 49, 32])) = true by rw [decide_eq_true h1, Bool.true_and]; exact h2]
  rfl
theorem code_no {l : List UInt8} (h : ¬ (12 ≤ l.length ∧ (l.take 9 == httpL) = true)) : codeL l = 0 := by
  unfold codeL
  rw [if_neg]
  intro h2
  rw [Bool.and_eq_true, decide_eq_true_eq] at h2
  exact h h2
def nmAll (l : List UInt8) : Bool := l.all nmB
def nameB (l : List UInt8) : Bool := decide (1 ≤ l.length) && (decide (l.length ≤ 12) && nmAll l)
theorem name_one (c : UInt8) : nameB [c] = nmB c := by simp [nameB, nmAll]
set_option maxRecDepth 100000 in
set_option maxHeartbeats 1000000 in
theorem code_spec {w0 w : World} {I : Imm} {L : Own} (hst : St w0 w I L) (s : ByteArray) (hs : s.size ≤ 9223372036854775807) :
    Calls Tryd.prog 22 #[.string s] w fun e w' => e = .returned (.int .i64 (codeL s.toList)) ∧ St w0 w' I L := by
  have hz := size_toList s
  have hpre := http_pre s
  have hz9 : httpS.size = 9 := rfl
  refine enter Tryd.func22 rfl (N := 36) rfl rfl ?_
  simp only [List.zipIdx_cons, List.zipIdx_nil, List.map_cons, List.map_nil, Nat.zero_add, Nat.reduceAdd]
  have hle := Imm.le.refl I
  refine CW.seq ?_
  -- region 0
  refine CW.region ?_
  refine RW.op1 rfl (runs_assign rfl) ?_
  refine RW.done ?_
  refine AQ.next ?_
  refine CW.seq ?_
  -- region 1
  refine CW.region ?_
  refine RW.op1 rfl (runs_move rfl) ?_
  refine RW.call rfl call38 rfl rfl (cutPrefix_spec hst s httpS hs (by decide)) ?_
  rintro e w ⟨rfl, hstn⟩
  clear hst
  have hst := hstn
  clear hstn
  obtain ⟨r, hr⟩ : ∃ r, (if preS s httpS = true then s.extract httpS.size s.size else s) = r := ⟨_, rfl⟩
  rw [hr]
  have hrz := size_toList r
  refine ⟨_, rfl, ?_⟩
  refine RW.op1 rfl (runs_move rfl) ?_
  refine RW.op1 rfl (runs_extract rfl rfl) ?_
  refine RW.op1 rfl (runs_extract rfl rfl) ?_
  refine RW.op1 rfl (runs_assign rfl) ?_
  refine RW.op1 rfl (runs_assign rfl) ?_
  refine RW.done ?_
  refine AQ.next ?_
  refine CW.seq ?_
  refine CW.seq ?_
  -- region 2
  refine CW.cut Unit (fun _ w => St w0 w I L) (fun _ => [(3, .string r), (18, .bool (decide (¬ (preS s httpS = true ∧ 3 ≤ r.size))))]) ?_ ?_
  · -- region 2
    refine CW.region ?_
    refine RW.op1 rfl (runs_move rfl) ?_
    refine RW.op1 rfl (runs_not rfl) ?_
    refine RW.op1 rfl (runs_move rfl) ?_
    refine RW.split (t := 14) rfl (fun hb14 => ?_) (fun hb14 => ?_)
    · have hb14p := hb14
      try simp only [decide_eq_true_eq, decide_eq_false_iff_not] at hb14p
      refine RW.off_guard rfl rfl rfl rfl hb14 ?_
      refine RW.off_guard rfl rfl rfl rfl hb14 ?_
      refine RW.off_guard rfl rfl rfl rfl hb14 ?_
      refine RW.op1 rfl (runs_pick_true rfl hb14 rfl) ?_
      refine RW.done ?_
      exact AQ.meet () hst ⟨rfl, boolN (by clear hpre hr hrz hz; generalize preS s httpS = b at *; cases b <;> simp_all <;> omega), trivial⟩
    · have hb14p := hb14
      try simp only [decide_eq_true_eq, decide_eq_false_iff_not] at hb14p
      refine RW.on_guard rfl rfl rfl rfl hb14 ?_
      refine RW.op1 rfl (runs_move rfl) ?_
      refine RW.on_guard rfl rfl rfl rfl hb14 ?_
      refine RW.op1 rfl (runs_lenS Tryd.underlying9 rfl) ?_
      refine RW.on_guard rfl rfl rfl rfl hb14 ?_
      refine RW.op1 rfl (runs_lss rfl rfl) ?_
      refine RW.op1 rfl (runs_pick_false rfl hb14 rfl) ?_
      refine RW.done ?_
      exact AQ.meet () hst ⟨rfl, boolN (by clear hpre hr hrz hz; generalize preS s httpS = b at *; cases b <;> simp_all <;> omega), trivial⟩
  · rintro _ w hstn
    clear hst
    have hst := hstn
    clear hstn
    refine AQ.next ?_
    refine CW.cond rfl (fun hc18 => ?_) (fun hc18 => ?_)
    · have hcb18 := hc18
      try simp only [decide_eq_true_eq, decide_eq_false_iff_not] at hc18
      skip
      refine CW.seq ?_
      -- region 3
      refine CW.region ?_
      refine RW.op1 rfl (runs_assign rfl) ?_
      refine RW.done ?_
      refine AQ.next ?_
      refine CW.ret ?_
      refine AQ.past_ret ?_
      refine AQ.ret1 rfl rfl ?_
      have h0 : codeL s.toList = 0 := by
        refine code_no fun h => ?_
        have h1 : preS s httpS = true := by rw [hpre, decide_eq_true (show 9 ≤ s.toList.length by omega), Bool.true_and]; exact h.2
        have h2 : ¬ (preS s httpS = true ∧ 3 ≤ r.size) := by simpa using hc18
        rw [if_pos h1] at hr
        rw [← hr, extract_list, List.length_take, List.length_drop] at hrz
        rw [hr] at hrz
        exact h2 ⟨h1, by omega⟩
      rw [h0]
      exact ⟨rfl, hst⟩
    · have hcb18 := hc18
      try simp only [decide_eq_true_eq, decide_eq_false_iff_not] at hc18
      have h2 : preS s httpS = true ∧ 3 ≤ r.size := by simpa using hc18
      rw [if_pos h2.1] at hr
      have hrl : r.toList = s.toList.drop 9 := by rw [← hr, extract_list, hz9, List.take_of_length_le (by rw [List.length_drop]; omega)]
      have hrz2 := hrz
      rw [hrl, List.length_drop] at hrz2
      have h23 := h2.2
      have h3 := h2.1
      rw [hpre, Bool.and_eq_true, decide_eq_true_eq] at h3
      have hcd := code_of (l := s.toList) (by omega) h3.2
      refine CW.skip ?_
      refine AQ.next ?_
      refine CW.seq ?_
      -- region 4
      refine CW.region ?_
      refine RW.op1 rfl (runs_move rfl) ?_
      refine RW.op1 rfl (runs_sliceS_h Tryd.underlying9 rfl rfl (by omega)) ?_
      rw [show r.extract 0 ((3 : Int)).toNat = strOf ((s.toList.drop 9).take 3) from by rw [extractE, hrl]; rfl]
      refine RW.call rfl call14 rfl rfl (number_spec hst (strOf ((s.toList.drop 9).take 3)) (by rw [strOfZ, List.length_take]; omega)) ?_
      rintro e w ⟨rfl, hstn⟩
      clear hst
      have hst := hstn
      clear hstn
      rw [strOf_toList]
      generalize numberR ((s.toList.drop 9).take 3) = q at hcd ⊢
      refine ⟨_, rfl, ?_⟩
      refine RW.op1 rfl (runs_move rfl) ?_
      refine RW.op1 rfl (runs_extract rfl rfl) ?_
      refine RW.op1 rfl (runs_extract rfl rfl) ?_
      refine RW.op1 rfl (runs_assign rfl) ?_
      refine RW.op1 rfl (runs_assign rfl) ?_
      refine RW.done ?_
      refine AQ.next ?_
      refine CW.seq ?_
      refine CW.seq ?_
      -- region 5
      refine CW.cut Unit (fun _ w => St w0 w I L) (fun _ => [(5, .int .i64 (q.getD 0)), (34, .bool (decide (¬ (q.isSome = true ∧ 100 ≤ q.getD 0 ∧ q.getD 0 ≤ 599))))]) ?_ ?_
      · -- region 5
        refine CW.region ?_
        refine RW.op1 rfl (runs_move rfl) ?_
        refine RW.op1 rfl (runs_not rfl) ?_
        refine RW.op1 rfl (runs_move rfl) ?_
        refine RW.split (t := 27) rfl (fun hb27 => ?_) (fun hb27 => ?_)
        · have hb27p := hb27
          try simp only [decide_eq_true_eq, decide_eq_false_iff_not] at hb27p
          refine RW.off_guard rfl rfl rfl rfl hb27 ?_
          refine RW.off_guard rfl rfl rfl rfl hb27 ?_
          refine RW.op1 rfl (runs_pick_true rfl hb27 rfl) ?_
          refine RW.op1 rfl (runs_move rfl) ?_
          refine RW.off_guard rfl rfl rfl rfl rfl ?_
          refine RW.off_guard rfl rfl rfl rfl rfl ?_
          refine RW.op1 rfl (runs_pick_true rfl rfl rfl) ?_
          refine RW.done ?_
          exact AQ.meet () hst ⟨rfl, boolN (by simp_all <;> omega), trivial⟩
        · have hb27p := hb27
          try simp only [decide_eq_true_eq, decide_eq_false_iff_not] at hb27p
          refine RW.on_guard rfl rfl rfl rfl hb27 ?_
          refine RW.op1 rfl (runs_move rfl) ?_
          refine RW.on_guard rfl rfl rfl rfl hb27 ?_
          refine RW.op1 rfl (runs_lss rfl rfl) ?_
          refine RW.op1 rfl (runs_pick_false rfl hb27 rfl) ?_
          refine RW.op1 rfl (runs_move rfl) ?_
          refine RW.split (t := 31) rfl (fun hb31 => ?_) (fun hb31 => ?_)
          · have hb31p := hb31
            try simp only [decide_eq_true_eq, decide_eq_false_iff_not] at hb31p
            refine RW.off_guard rfl rfl rfl rfl hb31 ?_
            refine RW.off_guard rfl rfl rfl rfl hb31 ?_
            refine RW.op1 rfl (runs_pick_true rfl hb31 rfl) ?_
            refine RW.done ?_
            exact AQ.meet () hst ⟨rfl, boolN (by simp_all <;> omega), trivial⟩
          · have hb31p := hb31
            try simp only [decide_eq_true_eq, decide_eq_false_iff_not] at hb31p
            refine RW.on_guard rfl rfl rfl rfl hb31 ?_
            refine RW.op1 rfl (runs_move rfl) ?_
            refine RW.on_guard rfl rfl rfl rfl hb31 ?_
            refine RW.op1 rfl (runs_gtr rfl rfl) ?_
            refine RW.op1 rfl (runs_pick_false rfl hb31 rfl) ?_
            refine RW.done ?_
            exact AQ.meet () hst ⟨rfl, boolN (by simp_all <;> omega), trivial⟩
      · rintro _ w hstn
        clear hst
        have hst := hstn
        clear hstn
        refine AQ.next ?_
        refine CW.cond rfl (fun hc34 => ?_) (fun hc34 => ?_)
        · have hcb34 := hc34
          try simp only [decide_eq_true_eq, decide_eq_false_iff_not] at hc34
          refine CW.seq ?_
          -- region 6
          refine CW.region ?_
          refine RW.op1 rfl (runs_assign rfl) ?_
          refine RW.done ?_
          refine AQ.next ?_
          refine CW.ret ?_
          refine AQ.past_ret ?_
          refine AQ.ret1 rfl rfl ?_
          have h0 : codeL s.toList = 0 := by
            rw [hcd]
            cases q with
            | none => rfl
            | some n =>
              have h4 : ¬ (100 ≤ n ∧ n ≤ 599) := by simpa using hc34
              exact if_pos (by omega)
          rw [h0]
          exact ⟨rfl, hst⟩
        · have hcb34 := hc34
          try simp only [decide_eq_true_eq, decide_eq_false_iff_not] at hc34
          refine CW.skip ?_
          refine AQ.next ?_
          refine CW.seq ?_
          -- region 7
          refine CW.region ?_
          refine RW.op1 rfl (runs_move rfl) ?_
          refine RW.op1 rfl (runs_assign rfl) ?_
          refine RW.done ?_
          refine AQ.next ?_
          refine CW.ret ?_
          refine AQ.ret1 rfl rfl ?_
          have h0 : codeL s.toList = q.getD 0 := by
            rw [hcd]
            have h4 : q.isSome = true ∧ 100 ≤ q.getD 0 ∧ q.getD 0 ≤ 599 := by simpa using hc34
            cases q with
            | none => cases h4.1
            | some n => exact if_neg (by have := h4.2; simp at this; omega)
          rw [h0]
          exact ⟨rfl, hst⟩
set_option maxRecDepth 100000 in
set_option maxHeartbeats 1000000 in
theorem letters_spec {w0 w : World} {I : Imm} {L : Own} (hst : St w0 w I L) (s : ByteArray) (hs : s.size ≤ 1000000) :
    Calls Tryd.prog 73 #[.string s] w fun e w' => e = .returned (.bool (nmAll s.toList)) ∧ St w0 w' I L := by
  have hsz := size_toList s
  refine enter Tryd.func73 rfl (N := 41) rfl rfl ?_
  simp only [List.zipIdx_cons, List.zipIdx_nil, List.map_cons, List.map_nil, Nat.zero_add, Nat.reduceAdd]
  have hle := Imm.le.refl I
  refine CW.seq ?_
  -- region 0
  refine CW.region ?_
  refine RW.op1 rfl (runs_assign rfl) ?_
  refine RW.done ?_
  refine AQ.next ?_
  refine CW.seq ?_
  refine CW.seq ?_
  -- region 1
  refine CW.region ?_
  refine RW.op1 rfl (runs_move rfl) ?_
  refine RW.op1 rfl (runs_lenS Tryd.underlying9 rfl) ?_
  refine RW.op1 rfl (runs_move rfl) ?_
  refine RW.done ?_
  refine AQ.next ?_
  refine CW.block ?_
  -- loop 1
  refine CW.loop Nat (fun k w => St w0 w I L ∧ k ≤ s.toList.length ∧ ∀ x ∈ s.toList.take k, nmB x = true) (fun k => [(0, .string s), (6, .int .i64 (s.size : Nat)), (7, .int .i64 (k : Nat))]) (fun k => s.toList.length - k) ⟨0, ⟨hst, Nat.zero_le _, by simp⟩, ⟨rfl, rfl, rfl, trivial⟩⟩ ?_
  rintro k w ⟨hstn, hk, hall⟩
  clear hst
  have hst := hstn
  clear hstn
  refine CW.seq ?_
  -- region 2
  refine CW.region ?_
  refine RW.op1 rfl (runs_lss rfl rfl) ?_
  refine RW.done ?_
  refine AQ.next ?_
  refine CW.seq ?_
  refine CW.cond rfl (fun hc8 => ?_) (fun hc8 => ?_)
  · have hcb8 := hc8
    try simp only [decide_eq_true_eq, decide_eq_false_iff_not] at hc8
    have hk1 : k < s.toList.length := by omega
    have hgd := get_getD hk1
    refine CW.skip ?_
    refine AQ.next ?_
    refine CW.seq ?_
    refine CW.block ?_
    refine CW.seq ?_
    -- region 3
    refine CW.region ?_
    refine RW.op1 rfl (runs_move rfl) ?_
    refine RW.op1 rfl (runs_assign rfl) ?_
    refine RW.done ?_
    refine AQ.next ?_
    refine CW.seq ?_
    -- region 4
    refine CW.region ?_
    refine RW.op1 rfl (runs_move rfl) ?_
    refine RW.op1 rfl (runs_move rfl) ?_
    refine RW.op1 rfl (runs_indexL Tryd.underlying9 rfl rfl (by omega) (by omega)) ?_
    refine RW.op1 rfl (runs_assign rfl) ?_
    refine RW.done ?_
    refine AQ.next ?_
    refine CW.seq ?_
    -- region 5
    obtain ⟨c, hc⟩ : ∃ c, s.toList[k] = c := ⟨_, rfl⟩
    rw [Int.toNat_natCast, hgd, hc]
    refine CW.cut Unit (fun _ w => St w0 w I L) (fun _ => [(0, .string s), (6, .int .i64 (s.size : Nat)), (7, .int .i64 (k : Nat)), (39, .bool (decide (¬ nameP (c.toNat : Int))))]) ?_ ?_
    · -- region 5
      refine CW.region ?_
      refine RW.op1 rfl (runs_move rfl) ?_
      refine RW.op1 rfl (runs_geq rfl rfl) ?_
      refine RW.op1 rfl (runs_move rfl) ?_
      refine RW.split (t := 15) rfl (fun hb15 => ?_) (fun hb15 => ?_)
      · have hb15p := hb15
        try simp only [decide_eq_true_eq, decide_eq_false_iff_not] at hb15p
        refine RW.on_guard rfl rfl rfl rfl hb15 ?_
        refine RW.op1 rfl (runs_move rfl) ?_
        refine RW.on_guard rfl rfl rfl rfl hb15 ?_
        refine RW.op1 rfl (runs_leq rfl rfl) ?_
        refine RW.op1 rfl (runs_pick_true rfl hb15 rfl) ?_
        refine RW.op1 rfl (runs_move rfl) ?_
        refine RW.split (t := 19) rfl (fun hb19 => ?_) (fun hb19 => ?_)
        · have hb19p := hb19
          try simp only [decide_eq_true_eq, decide_eq_false_iff_not] at hb19p
          refine RW.off_guard rfl rfl rfl rfl hb19 ?_
          refine RW.off_guard rfl rfl rfl rfl hb19 ?_
          refine RW.off_guard rfl rfl rfl rfl hb19 ?_
          refine RW.off_undef rfl rfl rfl rfl ?_
          refine RW.off_undef rfl rfl rfl rfl ?_
          refine RW.off_guard rfl rfl rfl rfl hb19 ?_
          refine RW.op1 rfl (runs_pick_true rfl hb19 rfl) ?_
          refine RW.op1 rfl (runs_move rfl) ?_
          refine RW.off_guard rfl rfl rfl rfl rfl ?_
          refine RW.off_guard rfl rfl rfl rfl rfl ?_
          refine RW.off_guard rfl rfl rfl rfl rfl ?_
          refine RW.off_undef rfl rfl rfl rfl ?_
          refine RW.off_undef rfl rfl rfl rfl ?_
          refine RW.off_guard rfl rfl rfl rfl rfl ?_
          refine RW.op1 rfl (runs_pick_true rfl rfl rfl) ?_
          refine RW.op1 rfl (runs_move rfl) ?_
          refine RW.off_guard rfl rfl rfl rfl rfl ?_
          refine RW.off_guard rfl rfl rfl rfl rfl ?_
          refine RW.op1 rfl (runs_pick_true rfl rfl rfl) ?_
          refine RW.op1 rfl (runs_not rfl) ?_
          refine RW.done ?_
          exact AQ.meet () hst ⟨rfl, rfl, rfl, boolN (by unfold nameP; simp only [Bool.not_eq_true', decide_eq_true_eq, decide_eq_false_iff_not, true_iff, Bool.not_true, Bool.not_false, Bool.false_eq_true, false_iff]; omega), trivial⟩
        · have hb19p := hb19
          try simp only [decide_eq_true_eq, decide_eq_false_iff_not] at hb19p
          refine RW.on_guard rfl rfl rfl rfl hb19 ?_
          refine RW.op1 rfl (runs_move rfl) ?_
          refine RW.on_guard rfl rfl rfl rfl hb19 ?_
          refine RW.op1 rfl (runs_geq rfl rfl) ?_
          refine RW.on_guard rfl rfl rfl rfl hb19 ?_
          refine RW.op1 rfl (runs_move rfl) ?_
          refine RW.split (t := 22) rfl (fun hb22 => ?_) (fun hb22 => ?_)
          · have hb22p := hb22
            try simp only [decide_eq_true_eq, decide_eq_false_iff_not] at hb22p
            refine RW.on_guard rfl rfl rfl rfl hb22 ?_
            refine RW.op1 rfl (runs_move rfl) ?_
            refine RW.on_guard rfl rfl rfl rfl hb22 ?_
            refine RW.op1 rfl (runs_leq rfl rfl) ?_
            refine RW.on_guard rfl rfl rfl rfl hb19 ?_
            refine RW.op1 rfl (runs_pick_true rfl hb22 rfl) ?_
            refine RW.op1 rfl (runs_pick_false rfl hb19 rfl) ?_
            refine RW.op1 rfl (runs_move rfl) ?_
            refine RW.split (t := 27) rfl (fun hb27 => ?_) (fun hb27 => ?_)
            · have hb27p := hb27
              try simp only [decide_eq_true_eq, decide_eq_false_iff_not] at hb27p
              refine RW.off_guard rfl rfl rfl rfl hb27 ?_
              refine RW.off_guard rfl rfl rfl rfl hb27 ?_
              refine RW.off_guard rfl rfl rfl rfl hb27 ?_
              refine RW.off_undef rfl rfl rfl rfl ?_
              refine RW.off_undef rfl rfl rfl rfl ?_
              refine RW.off_guard rfl rfl rfl rfl hb27 ?_
              refine RW.op1 rfl (runs_pick_true rfl hb27 rfl) ?_
              refine RW.op1 rfl (runs_move rfl) ?_
              refine RW.off_guard rfl rfl rfl rfl rfl ?_
              refine RW.off_guard rfl rfl rfl rfl rfl ?_
              refine RW.op1 rfl (runs_pick_true rfl rfl rfl) ?_
              refine RW.op1 rfl (runs_not rfl) ?_
              refine RW.done ?_
              exact AQ.meet () hst ⟨rfl, rfl, rfl, boolN (by unfold nameP; simp only [Bool.not_eq_true', decide_eq_true_eq, decide_eq_false_iff_not, true_iff, Bool.not_true, Bool.not_false, Bool.false_eq_true, false_iff]; omega), trivial⟩
            · have hb27p := hb27
              try simp only [decide_eq_true_eq, decide_eq_false_iff_not] at hb27p
              refine RW.on_guard rfl rfl rfl rfl hb27 ?_
              refine RW.op1 rfl (runs_move rfl) ?_
              refine RW.on_guard rfl rfl rfl rfl hb27 ?_
              refine RW.op1 rfl (runs_geq rfl rfl) ?_
              refine RW.on_guard rfl rfl rfl rfl hb27 ?_
              refine RW.op1 rfl (runs_move rfl) ?_
              refine RW.split (t := 30) rfl (fun hb30 => ?_) (fun hb30 => ?_)
              · have hb30p := hb30
                try simp only [decide_eq_true_eq, decide_eq_false_iff_not] at hb30p
                refine RW.on_guard rfl rfl rfl rfl hb30 ?_
                refine RW.op1 rfl (runs_move rfl) ?_
                refine RW.on_guard rfl rfl rfl rfl hb30 ?_
                refine RW.op1 rfl (runs_leq rfl rfl) ?_
                refine RW.on_guard rfl rfl rfl rfl hb27 ?_
                refine RW.op1 rfl (runs_pick_true rfl hb30 rfl) ?_
                refine RW.op1 rfl (runs_pick_false rfl hb27 rfl) ?_
                refine RW.op1 rfl (runs_move rfl) ?_
                refine RW.split (t := 35) rfl (fun hb35 => ?_) (fun hb35 => ?_)
                · have hb35p := hb35
                  try simp only [decide_eq_true_eq, decide_eq_false_iff_not] at hb35p
                  refine RW.off_guard rfl rfl rfl rfl hb35 ?_
                  refine RW.off_guard rfl rfl rfl rfl hb35 ?_
                  refine RW.op1 rfl (runs_pick_true rfl hb35 rfl) ?_
                  refine RW.op1 rfl (runs_not rfl) ?_
                  refine RW.done ?_
                  exact AQ.meet () hst ⟨rfl, rfl, rfl, boolN (by unfold nameP; simp only [Bool.not_eq_true', decide_eq_true_eq, decide_eq_false_iff_not, true_iff, Bool.not_true, Bool.not_false, Bool.false_eq_true, false_iff]; omega), trivial⟩
                · have hb35p := hb35
                  try simp only [decide_eq_true_eq, decide_eq_false_iff_not] at hb35p
                  refine RW.on_guard rfl rfl rfl rfl hb35 ?_
                  refine RW.op1 rfl (runs_move rfl) ?_
                  refine RW.on_guard rfl rfl rfl rfl hb35 ?_
                  refine RW.op1 rfl (runs_eqI rfl rfl) ?_
                  refine RW.op1 rfl (runs_pick_false rfl hb35 rfl) ?_
                  refine RW.op1 rfl (runs_not rfl) ?_
                  refine RW.done ?_
                  exact AQ.meet () hst ⟨rfl, rfl, rfl, boolN (by unfold nameP; simp only [Bool.not_eq_true', decide_eq_true_eq, decide_eq_false_iff_not, true_iff, Bool.not_true, Bool.not_false, Bool.false_eq_true, false_iff]; omega), trivial⟩
              · have hb30p := hb30
                try simp only [decide_eq_true_eq, decide_eq_false_iff_not] at hb30p
                refine RW.off_guard rfl rfl rfl rfl hb30 ?_
                refine RW.off_guard rfl rfl rfl rfl hb30 ?_
                refine RW.on_guard rfl rfl rfl rfl hb27 ?_
                refine RW.op1 rfl (runs_pick_false rfl hb30 rfl) ?_
                refine RW.op1 rfl (runs_pick_false rfl hb27 rfl) ?_
                refine RW.op1 rfl (runs_move rfl) ?_
                refine RW.on_guard rfl rfl rfl rfl rfl ?_
                refine RW.op1 rfl (runs_move rfl) ?_
                refine RW.on_guard rfl rfl rfl rfl rfl ?_
                refine RW.op1 rfl (runs_eqI rfl rfl) ?_
                refine RW.op1 rfl (runs_pick_false rfl rfl rfl) ?_
                refine RW.op1 rfl (runs_not rfl) ?_
                refine RW.done ?_
                exact AQ.meet () hst ⟨rfl, rfl, rfl, boolN (by unfold nameP; simp only [Bool.not_eq_true', decide_eq_true_eq, decide_eq_false_iff_not, true_iff, Bool.not_true, Bool.not_false, Bool.false_eq_true, false_iff]; omega), trivial⟩
          · have hb22p := hb22
            try simp only [decide_eq_true_eq, decide_eq_false_iff_not] at hb22p
            refine RW.off_guard rfl rfl rfl rfl hb22 ?_
            refine RW.off_guard rfl rfl rfl rfl hb22 ?_
            refine RW.on_guard rfl rfl rfl rfl hb19 ?_
            refine RW.op1 rfl (runs_pick_false rfl hb22 rfl) ?_
            refine RW.op1 rfl (runs_pick_false rfl hb19 rfl) ?_
            refine RW.op1 rfl (runs_move rfl) ?_
            refine RW.on_guard rfl rfl rfl rfl rfl ?_
            refine RW.op1 rfl (runs_move rfl) ?_
            refine RW.on_guard rfl rfl rfl rfl rfl ?_
            refine RW.op1 rfl (runs_geq rfl rfl) ?_
            refine RW.on_guard rfl rfl rfl rfl rfl ?_
            refine RW.op1 rfl (runs_move rfl) ?_
            refine RW.split (t := 30) rfl (fun hb30 => ?_) (fun hb30 => ?_)
            · have hb30p := hb30
              try simp only [decide_eq_true_eq, decide_eq_false_iff_not] at hb30p
              refine RW.on_guard rfl rfl rfl rfl hb30 ?_
              refine RW.op1 rfl (runs_move rfl) ?_
              refine RW.on_guard rfl rfl rfl rfl hb30 ?_
              refine RW.op1 rfl (runs_leq rfl rfl) ?_
              refine RW.on_guard rfl rfl rfl rfl rfl ?_
              refine RW.op1 rfl (runs_pick_true rfl hb30 rfl) ?_
              refine RW.op1 rfl (runs_pick_false rfl rfl rfl) ?_
              refine RW.op1 rfl (runs_move rfl) ?_
              refine RW.split (t := 35) rfl (fun hb35 => ?_) (fun hb35 => ?_)
              · have hb35p := hb35
                try simp only [decide_eq_true_eq, decide_eq_false_iff_not] at hb35p
                refine RW.off_guard rfl rfl rfl rfl hb35 ?_
                refine RW.off_guard rfl rfl rfl rfl hb35 ?_
                refine RW.op1 rfl (runs_pick_true rfl hb35 rfl) ?_
                refine RW.op1 rfl (runs_not rfl) ?_
                refine RW.done ?_
                exact AQ.meet () hst ⟨rfl, rfl, rfl, boolN (by unfold nameP; simp only [Bool.not_eq_true', decide_eq_true_eq, decide_eq_false_iff_not, true_iff, Bool.not_true, Bool.not_false, Bool.false_eq_true, false_iff]; omega), trivial⟩
              · have hb35p := hb35
                try simp only [decide_eq_true_eq, decide_eq_false_iff_not] at hb35p
                refine RW.on_guard rfl rfl rfl rfl hb35 ?_
                refine RW.op1 rfl (runs_move rfl) ?_
                refine RW.on_guard rfl rfl rfl rfl hb35 ?_
                refine RW.op1 rfl (runs_eqI rfl rfl) ?_
                refine RW.op1 rfl (runs_pick_false rfl hb35 rfl) ?_
                refine RW.op1 rfl (runs_not rfl) ?_
                refine RW.done ?_
                exact AQ.meet () hst ⟨rfl, rfl, rfl, boolN (by unfold nameP; simp only [Bool.not_eq_true', decide_eq_true_eq, decide_eq_false_iff_not, true_iff, Bool.not_true, Bool.not_false, Bool.false_eq_true, false_iff]; omega), trivial⟩
            · have hb30p := hb30
              try simp only [decide_eq_true_eq, decide_eq_false_iff_not] at hb30p
              refine RW.off_guard rfl rfl rfl rfl hb30 ?_
              refine RW.off_guard rfl rfl rfl rfl hb30 ?_
              refine RW.on_guard rfl rfl rfl rfl rfl ?_
              refine RW.op1 rfl (runs_pick_false rfl hb30 rfl) ?_
              refine RW.op1 rfl (runs_pick_false rfl rfl rfl) ?_
              refine RW.op1 rfl (runs_move rfl) ?_
              refine RW.on_guard rfl rfl rfl rfl rfl ?_
              refine RW.op1 rfl (runs_move rfl) ?_
              refine RW.on_guard rfl rfl rfl rfl rfl ?_
              refine RW.op1 rfl (runs_eqI rfl rfl) ?_
              refine RW.op1 rfl (runs_pick_false rfl rfl rfl) ?_
              refine RW.op1 rfl (runs_not rfl) ?_
              refine RW.done ?_
              exact AQ.meet () hst ⟨rfl, rfl, rfl, boolN (by unfold nameP; simp only [Bool.not_eq_true', decide_eq_true_eq, decide_eq_false_iff_not, true_iff, Bool.not_true, Bool.not_false, Bool.false_eq_true, false_iff]; omega), trivial⟩
      · have hb15p := hb15
        try simp only [decide_eq_true_eq, decide_eq_false_iff_not] at hb15p
        refine RW.off_guard rfl rfl rfl rfl hb15 ?_
        refine RW.off_guard rfl rfl rfl rfl hb15 ?_
        refine RW.op1 rfl (runs_pick_false rfl hb15 rfl) ?_
        refine RW.op1 rfl (runs_move rfl) ?_
        refine RW.on_guard rfl rfl rfl rfl rfl ?_
        refine RW.op1 rfl (runs_move rfl) ?_
        refine RW.on_guard rfl rfl rfl rfl rfl ?_
        refine RW.op1 rfl (runs_geq rfl rfl) ?_
        refine RW.on_guard rfl rfl rfl rfl rfl ?_
        refine RW.op1 rfl (runs_move rfl) ?_
        refine RW.split (t := 22) rfl (fun hb22 => ?_) (fun hb22 => ?_)
        · have hb22p := hb22
          try simp only [decide_eq_true_eq, decide_eq_false_iff_not] at hb22p
          refine RW.on_guard rfl rfl rfl rfl hb22 ?_
          refine RW.op1 rfl (runs_move rfl) ?_
          refine RW.on_guard rfl rfl rfl rfl hb22 ?_
          refine RW.op1 rfl (runs_leq rfl rfl) ?_
          refine RW.on_guard rfl rfl rfl rfl rfl ?_
          refine RW.op1 rfl (runs_pick_true rfl hb22 rfl) ?_
          refine RW.op1 rfl (runs_pick_false rfl rfl rfl) ?_
          refine RW.op1 rfl (runs_move rfl) ?_
          refine RW.split (t := 27) rfl (fun hb27 => ?_) (fun hb27 => ?_)
          · have hb27p := hb27
            try simp only [decide_eq_true_eq, decide_eq_false_iff_not] at hb27p
            refine RW.off_guard rfl rfl rfl rfl hb27 ?_
            refine RW.off_guard rfl rfl rfl rfl hb27 ?_
            refine RW.off_guard rfl rfl rfl rfl hb27 ?_
            refine RW.off_undef rfl rfl rfl rfl ?_
            refine RW.off_undef rfl rfl rfl rfl ?_
            refine RW.off_guard rfl rfl rfl rfl hb27 ?_
            refine RW.op1 rfl (runs_pick_true rfl hb27 rfl) ?_
            refine RW.op1 rfl (runs_move rfl) ?_
            refine RW.off_guard rfl rfl rfl rfl rfl ?_
            refine RW.off_guard rfl rfl rfl rfl rfl ?_
            refine RW.op1 rfl (runs_pick_true rfl rfl rfl) ?_
            refine RW.op1 rfl (runs_not rfl) ?_
            refine RW.done ?_
            exact AQ.meet () hst ⟨rfl, rfl, rfl, boolN (by unfold nameP; simp only [Bool.not_eq_true', decide_eq_true_eq, decide_eq_false_iff_not, true_iff, Bool.not_true, Bool.not_false, Bool.false_eq_true, false_iff]; omega), trivial⟩
          · have hb27p := hb27
            try simp only [decide_eq_true_eq, decide_eq_false_iff_not] at hb27p
            refine RW.on_guard rfl rfl rfl rfl hb27 ?_
            refine RW.op1 rfl (runs_move rfl) ?_
            refine RW.on_guard rfl rfl rfl rfl hb27 ?_
            refine RW.op1 rfl (runs_geq rfl rfl) ?_
            refine RW.on_guard rfl rfl rfl rfl hb27 ?_
            refine RW.op1 rfl (runs_move rfl) ?_
            refine RW.split (t := 30) rfl (fun hb30 => ?_) (fun hb30 => ?_)
            · have hb30p := hb30
              try simp only [decide_eq_true_eq, decide_eq_false_iff_not] at hb30p
              refine RW.on_guard rfl rfl rfl rfl hb30 ?_
              refine RW.op1 rfl (runs_move rfl) ?_
              refine RW.on_guard rfl rfl rfl rfl hb30 ?_
              refine RW.op1 rfl (runs_leq rfl rfl) ?_
              refine RW.on_guard rfl rfl rfl rfl hb27 ?_
              refine RW.op1 rfl (runs_pick_true rfl hb30 rfl) ?_
              refine RW.op1 rfl (runs_pick_false rfl hb27 rfl) ?_
              refine RW.op1 rfl (runs_move rfl) ?_
              refine RW.split (t := 35) rfl (fun hb35 => ?_) (fun hb35 => ?_)
              · have hb35p := hb35
                try simp only [decide_eq_true_eq, decide_eq_false_iff_not] at hb35p
                refine RW.off_guard rfl rfl rfl rfl hb35 ?_
                refine RW.off_guard rfl rfl rfl rfl hb35 ?_
                refine RW.op1 rfl (runs_pick_true rfl hb35 rfl) ?_
                refine RW.op1 rfl (runs_not rfl) ?_
                refine RW.done ?_
                exact AQ.meet () hst ⟨rfl, rfl, rfl, boolN (by unfold nameP; simp only [Bool.not_eq_true', decide_eq_true_eq, decide_eq_false_iff_not, true_iff, Bool.not_true, Bool.not_false, Bool.false_eq_true, false_iff]; omega), trivial⟩
              · have hb35p := hb35
                try simp only [decide_eq_true_eq, decide_eq_false_iff_not] at hb35p
                refine RW.on_guard rfl rfl rfl rfl hb35 ?_
                refine RW.op1 rfl (runs_move rfl) ?_
                refine RW.on_guard rfl rfl rfl rfl hb35 ?_
                refine RW.op1 rfl (runs_eqI rfl rfl) ?_
                refine RW.op1 rfl (runs_pick_false rfl hb35 rfl) ?_
                refine RW.op1 rfl (runs_not rfl) ?_
                refine RW.done ?_
                exact AQ.meet () hst ⟨rfl, rfl, rfl, boolN (by unfold nameP; simp only [Bool.not_eq_true', decide_eq_true_eq, decide_eq_false_iff_not, true_iff, Bool.not_true, Bool.not_false, Bool.false_eq_true, false_iff]; omega), trivial⟩
            · have hb30p := hb30
              try simp only [decide_eq_true_eq, decide_eq_false_iff_not] at hb30p
              refine RW.off_guard rfl rfl rfl rfl hb30 ?_
              refine RW.off_guard rfl rfl rfl rfl hb30 ?_
              refine RW.on_guard rfl rfl rfl rfl hb27 ?_
              refine RW.op1 rfl (runs_pick_false rfl hb30 rfl) ?_
              refine RW.op1 rfl (runs_pick_false rfl hb27 rfl) ?_
              refine RW.op1 rfl (runs_move rfl) ?_
              refine RW.on_guard rfl rfl rfl rfl rfl ?_
              refine RW.op1 rfl (runs_move rfl) ?_
              refine RW.on_guard rfl rfl rfl rfl rfl ?_
              refine RW.op1 rfl (runs_eqI rfl rfl) ?_
              refine RW.op1 rfl (runs_pick_false rfl rfl rfl) ?_
              refine RW.op1 rfl (runs_not rfl) ?_
              refine RW.done ?_
              exact AQ.meet () hst ⟨rfl, rfl, rfl, boolN (by unfold nameP; simp only [Bool.not_eq_true', decide_eq_true_eq, decide_eq_false_iff_not, true_iff, Bool.not_true, Bool.not_false, Bool.false_eq_true, false_iff]; omega), trivial⟩
        · have hb22p := hb22
          try simp only [decide_eq_true_eq, decide_eq_false_iff_not] at hb22p
          refine RW.off_guard rfl rfl rfl rfl hb22 ?_
          refine RW.off_guard rfl rfl rfl rfl hb22 ?_
          refine RW.on_guard rfl rfl rfl rfl rfl ?_
          refine RW.op1 rfl (runs_pick_false rfl hb22 rfl) ?_
          refine RW.op1 rfl (runs_pick_false rfl rfl rfl) ?_
          refine RW.op1 rfl (runs_move rfl) ?_
          refine RW.on_guard rfl rfl rfl rfl rfl ?_
          refine RW.op1 rfl (runs_move rfl) ?_
          refine RW.on_guard rfl rfl rfl rfl rfl ?_
          refine RW.op1 rfl (runs_geq rfl rfl) ?_
          refine RW.on_guard rfl rfl rfl rfl rfl ?_
          refine RW.op1 rfl (runs_move rfl) ?_
          refine RW.split (t := 30) rfl (fun hb30 => ?_) (fun hb30 => ?_)
          · have hb30p := hb30
            try simp only [decide_eq_true_eq, decide_eq_false_iff_not] at hb30p
            refine RW.on_guard rfl rfl rfl rfl hb30 ?_
            refine RW.op1 rfl (runs_move rfl) ?_
            refine RW.on_guard rfl rfl rfl rfl hb30 ?_
            refine RW.op1 rfl (runs_leq rfl rfl) ?_
            refine RW.on_guard rfl rfl rfl rfl rfl ?_
            refine RW.op1 rfl (runs_pick_true rfl hb30 rfl) ?_
            refine RW.op1 rfl (runs_pick_false rfl rfl rfl) ?_
            refine RW.op1 rfl (runs_move rfl) ?_
            refine RW.split (t := 35) rfl (fun hb35 => ?_) (fun hb35 => ?_)
            · have hb35p := hb35
              try simp only [decide_eq_true_eq, decide_eq_false_iff_not] at hb35p
              refine RW.off_guard rfl rfl rfl rfl hb35 ?_
              refine RW.off_guard rfl rfl rfl rfl hb35 ?_
              refine RW.op1 rfl (runs_pick_true rfl hb35 rfl) ?_
              refine RW.op1 rfl (runs_not rfl) ?_
              refine RW.done ?_
              exact AQ.meet () hst ⟨rfl, rfl, rfl, boolN (by unfold nameP; simp only [Bool.not_eq_true', decide_eq_true_eq, decide_eq_false_iff_not, true_iff, Bool.not_true, Bool.not_false, Bool.false_eq_true, false_iff]; omega), trivial⟩
            · have hb35p := hb35
              try simp only [decide_eq_true_eq, decide_eq_false_iff_not] at hb35p
              refine RW.on_guard rfl rfl rfl rfl hb35 ?_
              refine RW.op1 rfl (runs_move rfl) ?_
              refine RW.on_guard rfl rfl rfl rfl hb35 ?_
              refine RW.op1 rfl (runs_eqI rfl rfl) ?_
              refine RW.op1 rfl (runs_pick_false rfl hb35 rfl) ?_
              refine RW.op1 rfl (runs_not rfl) ?_
              refine RW.done ?_
              exact AQ.meet () hst ⟨rfl, rfl, rfl, boolN (by unfold nameP; simp only [Bool.not_eq_true', decide_eq_true_eq, decide_eq_false_iff_not, true_iff, Bool.not_true, Bool.not_false, Bool.false_eq_true, false_iff]; omega), trivial⟩
          · have hb30p := hb30
            try simp only [decide_eq_true_eq, decide_eq_false_iff_not] at hb30p
            refine RW.off_guard rfl rfl rfl rfl hb30 ?_
            refine RW.off_guard rfl rfl rfl rfl hb30 ?_
            refine RW.on_guard rfl rfl rfl rfl rfl ?_
            refine RW.op1 rfl (runs_pick_false rfl hb30 rfl) ?_
            refine RW.op1 rfl (runs_pick_false rfl rfl rfl) ?_
            refine RW.op1 rfl (runs_move rfl) ?_
            refine RW.on_guard rfl rfl rfl rfl rfl ?_
            refine RW.op1 rfl (runs_move rfl) ?_
            refine RW.on_guard rfl rfl rfl rfl rfl ?_
            refine RW.op1 rfl (runs_eqI rfl rfl) ?_
            refine RW.op1 rfl (runs_pick_false rfl rfl rfl) ?_
            refine RW.op1 rfl (runs_not rfl) ?_
            refine RW.done ?_
            exact AQ.meet () hst ⟨rfl, rfl, rfl, boolN (by unfold nameP; simp only [Bool.not_eq_true', decide_eq_true_eq, decide_eq_false_iff_not, true_iff, Bool.not_true, Bool.not_false, Bool.false_eq_true, false_iff]; omega), trivial⟩
    · rintro _ w hstn
      clear hst
      have hst := hstn
      clear hstn
      refine AQ.next ?_
      refine CW.cond rfl (fun hc39 => ?_) (fun hc39 => ?_)
      · have hcb39 := hc39
        try simp only [decide_eq_true_eq, decide_eq_false_iff_not] at hc39
        refine CW.seq ?_
        -- region 6
        refine CW.region ?_
        refine RW.op1 rfl (runs_assign rfl) ?_
        refine RW.done ?_
        refine AQ.next ?_
        refine CW.ret ?_
        refine AQ.block_ret ?_
        refine AQ.past_ret ?_
        refine AQ.past_ret ?_
        refine AQ.block_ret ?_
        refine AQ.past_ret ?_
        refine AQ.ret1 rfl rfl ?_
        have hno : nmAll s.toList = false := by
          unfold nmAll
          rw [List.all_eq_false]
          exact ⟨_, List.getElem_mem hk1, by rw [hc]; unfold nmB; simpa using hc39⟩
        rw [hno]
        exact ⟨rfl, hst⟩
      · have hcb39 := hc39
        try simp only [decide_eq_true_eq, decide_eq_false_iff_not] at hc39
        refine CW.skip ?_
        refine AQ.block_normal ?_
        refine AQ.next ?_
        -- region 7
        refine CW.region ?_
        refine RW.op1 rfl (runs_add rfl rfl (by omega)) ?_
        refine RW.op1 rfl (runs_move rfl) ?_
        refine RW.done ?_
        exact AQ.again (x := k) (k + 1) ⟨hst, by omega, takeE_more hall hk1 (by rw [hc]; unfold nmB; simpa using hc39)⟩ ⟨rfl, rfl, rfl, trivial⟩ (by omega)
  · have hcb8 := hc8
    try simp only [decide_eq_true_eq, decide_eq_false_iff_not] at hc8
    skip
    refine CW.exit ?_
    refine AQ.past_exit ?_
    refine AQ.past_exit ?_
    refine AQ.block_hit ?_
    refine AQ.next ?_
    refine CW.seq ?_
    -- region 8
    refine CW.region ?_
    refine RW.op1 rfl (runs_assign rfl) ?_
    refine RW.done ?_
    refine AQ.next ?_
    refine CW.ret ?_
    refine AQ.ret1 rfl rfl ?_
    have hyes : nmAll s.toList = true := by
      unfold nmAll
      rw [List.all_eq_true]
      rw [List.take_of_length_le (by omega)] at hall
      exact hall
    rw [hyes]
    exact ⟨rfl, hst⟩
set_option maxRecDepth 100000 in
set_option maxHeartbeats 1000000 in
theorem name_spec {w0 w : World} {I : Imm} {L : Own} (hst : St w0 w I L) (s : ByteArray) (hs : s.size ≤ 1000000) :
    Calls Tryd.prog 62 #[.string s] w fun e w' => e = .returned (.bool (nameB s.toList)) ∧ St w0 w' I L := by
  have hsz := size_toList s
  refine enter Tryd.func62 rfl (N := 15) rfl rfl ?_
  simp only [List.zipIdx_cons, List.zipIdx_nil, List.map_cons, List.map_nil, Nat.zero_add, Nat.reduceAdd]
  have hle := Imm.le.refl I
  refine CW.seq ?_
  -- region 0
  refine CW.region ?_
  refine RW.op1 rfl (runs_assign rfl) ?_
  refine RW.done ?_
  refine AQ.next ?_
  refine CW.seq ?_
  -- region 1
  refine CW.region ?_
  refine RW.op1 rfl (runs_move rfl) ?_
  refine RW.op1 rfl (runs_lenS Tryd.underlying9 rfl) ?_
  refine RW.op1 rfl (runs_geq rfl rfl) ?_
  refine RW.op1 rfl (runs_move rfl) ?_
  refine RW.split (t := 6) rfl (fun hb6 => ?_) (fun hb6 => ?_)
  · have hb6p := hb6
    try simp only [decide_eq_true_eq, decide_eq_false_iff_not] at hb6p
    refine RW.on_guard rfl rfl rfl rfl hb6 ?_
    refine RW.op1 rfl (runs_move rfl) ?_
    refine RW.on_guard rfl rfl rfl rfl hb6 ?_
    refine RW.op1 rfl (runs_lenS Tryd.underlying9 rfl) ?_
    refine RW.on_guard rfl rfl rfl rfl hb6 ?_
    refine RW.op1 rfl (runs_leq rfl rfl) ?_
    refine RW.op1 rfl (runs_pick_true rfl hb6 rfl) ?_
    refine RW.op1 rfl (runs_move rfl) ?_
    refine RW.split (t := 11) rfl (fun hb11 => ?_) (fun hb11 => ?_)
    · have hb11p := hb11
      try simp only [decide_eq_true_eq, decide_eq_false_iff_not] at hb11p
      refine RW.on_guard rfl rfl rfl rfl hb11 ?_
      refine RW.op1 rfl (runs_move rfl) ?_
      refine RW.on_guard rfl rfl rfl rfl hb11 ?_
      refine RW.call rfl call73 rfl rfl (letters_spec hst s hs) ?_
      rintro e w ⟨rfl, hstn⟩
      clear hst
      have hst := hstn
      clear hstn
      refine ⟨_, rfl, ?_⟩
      refine RW.op1 rfl (runs_pick_true rfl hb11 rfl) ?_
      refine RW.op1 rfl (runs_assign rfl) ?_
      refine RW.done ?_
      refine AQ.next ?_
      refine CW.ret ?_
      refine AQ.ret1 rfl rfl ?_
      refine ⟨?_, hst⟩
      unfold nameB
      first
        | (rw [decide_eq_true (show 1 ≤ s.toList.length by omega), decide_eq_true (show s.toList.length ≤ 12 by omega)]; rfl)
        | (rw [decide_eq_true (show 1 ≤ s.toList.length by omega), decide_eq_false (show ¬ s.toList.length ≤ 12 by omega)]; rfl)
        | (rw [decide_eq_false (show ¬ 1 ≤ s.toList.length by omega)]; rfl)
    · have hb11p := hb11
      try simp only [decide_eq_true_eq, decide_eq_false_iff_not] at hb11p
      refine RW.off_guard rfl rfl rfl rfl hb11 ?_
      refine RW.off_guard rfl rfl rfl rfl hb11 ?_
      refine RW.op1 rfl (runs_pick_false rfl hb11 rfl) ?_
      refine RW.op1 rfl (runs_assign rfl) ?_
      refine RW.done ?_
      refine AQ.next ?_
      refine CW.ret ?_
      refine AQ.ret1 rfl rfl ?_
      refine ⟨?_, hst⟩
      unfold nameB
      first
        | (rw [decide_eq_true (show 1 ≤ s.toList.length by omega), decide_eq_true (show s.toList.length ≤ 12 by omega)]; rfl)
        | (rw [decide_eq_true (show 1 ≤ s.toList.length by omega), decide_eq_false (show ¬ s.toList.length ≤ 12 by omega)]; rfl)
        | (rw [decide_eq_false (show ¬ 1 ≤ s.toList.length by omega)]; rfl)
  · have hb6p := hb6
    try simp only [decide_eq_true_eq, decide_eq_false_iff_not] at hb6p
    refine RW.off_guard rfl rfl rfl rfl hb6 ?_
    refine RW.off_guard rfl rfl rfl rfl hb6 ?_
    refine RW.off_guard rfl rfl rfl rfl hb6 ?_
    refine RW.op1 rfl (runs_pick_false rfl hb6 rfl) ?_
    refine RW.op1 rfl (runs_move rfl) ?_
    refine RW.off_guard rfl rfl rfl rfl rfl ?_
    refine RW.off_guard rfl rfl rfl rfl rfl ?_
    refine RW.op1 rfl (runs_pick_false rfl rfl rfl) ?_
    refine RW.op1 rfl (runs_assign rfl) ?_
    refine RW.done ?_
    refine AQ.next ?_
    refine CW.ret ?_
    refine AQ.ret1 rfl rfl ?_
    refine ⟨?_, hst⟩
    unfold nameB
    first
      | (rw [decide_eq_true (show 1 ≤ s.toList.length by omega), decide_eq_true (show s.toList.length ≤ 12 by omega)]; rfl)
      | (rw [decide_eq_true (show 1 ≤ s.toList.length by omega), decide_eq_false (show ¬ s.toList.length ≤ 12 by omega)]; rfl)
      | (rw [decide_eq_false (show ¬ 1 ≤ s.toList.length by omega)]; rfl)
set_option maxRecDepth 100000 in
set_option maxHeartbeats 1000000 in
theorem rname_spec {w0 w : World} {I : Imm} {L : Own} (hst : St w0 w I L) (s : ByteArray) (hs : s.size ≤ 9223372036854775807) :
    Calls Tryd.prog 46 #[.string s] w fun e w' => e = .returned (.bool (nmOk s.toList)) ∧ St w0 w' I L := by
  have hsz := size_toList s
  refine enter Tryd.func46 rfl (N := 25) rfl rfl ?_
  simp only [List.zipIdx_cons, List.zipIdx_nil, List.map_cons, List.map_nil, Nat.zero_add, Nat.reduceAdd]
  have hle := Imm.le.refl I
  refine CW.seq ?_
  -- region 0
  refine CW.region ?_
  refine RW.op1 rfl (runs_assign rfl) ?_
  refine RW.done ?_
  refine AQ.next ?_
  refine CW.seq ?_
  refine CW.seq ?_
  -- region 1
  refine CW.cut Unit (fun _ w => St w0 w I L) (fun _ => [(0, .string s), (11, .bool (decide (¬ (1 ≤ s.toList.length ∧ s.toList.length ≤ 20))))]) ?_ ?_
  · -- region 1
    refine CW.region ?_
    refine RW.op1 rfl (runs_move rfl) ?_
    refine RW.op1 rfl (runs_lenS Tryd.underlying9 rfl) ?_
    refine RW.op1 rfl (runs_lss rfl rfl) ?_
    refine RW.op1 rfl (runs_move rfl) ?_
    refine RW.split (t := 7) rfl (fun hb7 => ?_) (fun hb7 => ?_)
    · have hb7p := hb7
      try simp only [decide_eq_true_eq, decide_eq_false_iff_not] at hb7p
      refine RW.off_guard rfl rfl rfl rfl hb7 ?_
      refine RW.off_guard rfl rfl rfl rfl hb7 ?_
      refine RW.off_guard rfl rfl rfl rfl hb7 ?_
      refine RW.op1 rfl (runs_pick_true rfl hb7 rfl) ?_
      refine RW.done ?_
      exact AQ.meet () hst ⟨rfl, boolN (by simp only [decide_eq_true_eq, true_iff, Bool.false_eq_true, false_iff]; omega), trivial⟩
    · have hb7p := hb7
      try simp only [decide_eq_true_eq, decide_eq_false_iff_not] at hb7p
      refine RW.on_guard rfl rfl rfl rfl hb7 ?_
      refine RW.op1 rfl (runs_move rfl) ?_
      refine RW.on_guard rfl rfl rfl rfl hb7 ?_
      refine RW.op1 rfl (runs_lenS Tryd.underlying9 rfl) ?_
      refine RW.on_guard rfl rfl rfl rfl hb7 ?_
      refine RW.op1 rfl (runs_gtr rfl rfl) ?_
      refine RW.op1 rfl (runs_pick_false rfl hb7 rfl) ?_
      refine RW.done ?_
      exact AQ.meet () hst ⟨rfl, boolN (by simp only [decide_eq_true_eq, true_iff, Bool.false_eq_true, false_iff]; omega), trivial⟩
  · rintro _ w hstn
    clear hst
    have hst := hstn
    clear hstn
    refine AQ.next ?_
    refine CW.cond rfl (fun hc11 => ?_) (fun hc11 => ?_)
    · have hcb11 := hc11
      try simp only [decide_eq_true_eq, decide_eq_false_iff_not] at hc11
      skip
      refine CW.seq ?_
      -- region 2
      refine CW.region ?_
      refine RW.op1 rfl (runs_assign rfl) ?_
      refine RW.done ?_
      refine AQ.next ?_
      refine CW.ret ?_
      refine AQ.past_ret ?_
      refine AQ.ret1 rfl rfl ?_
      have h0 : nmOk s.toList = false := by unfold nmOk; rw [decide_eq_false (by simpa using hc11), Bool.false_and]
      rw [h0]
      exact ⟨rfl, hst⟩
    · have hcb11 := hc11
      try simp only [decide_eq_true_eq, decide_eq_false_iff_not] at hc11
      have hle2 : 1 ≤ s.toList.length ∧ s.toList.length ≤ 20 := by simpa using hc11
      refine CW.skip ?_
      refine AQ.next ?_
      refine CW.seq ?_
      refine CW.seq ?_
      -- region 3
      refine CW.region ?_
      refine RW.op1 rfl (runs_move rfl) ?_
      refine RW.op1 rfl (runs_lenS Tryd.underlying9 rfl) ?_
      refine RW.op1 rfl (runs_move rfl) ?_
      refine RW.done ?_
      refine AQ.next ?_
      refine CW.block ?_
      -- loop 1
      refine CW.loop Nat (fun k w => St w0 w I L ∧ k ≤ s.toList.length ∧ ∀ x ∈ s.toList.take k, nmB x = true) (fun k => [(0, .string s), (13, .int .i64 (s.size : Nat)), (14, .int .i64 (k : Nat))]) (fun k => s.toList.length - k) ⟨0, ⟨hst, Nat.zero_le _, by simp⟩, ⟨rfl, rfl, rfl, trivial⟩⟩ ?_
      rintro k w ⟨hstn, hk, hall⟩
      clear hst
      have hst := hstn
      clear hstn
      refine CW.seq ?_
      -- region 4
      refine CW.region ?_
      refine RW.op1 rfl (runs_lss rfl rfl) ?_
      refine RW.done ?_
      refine AQ.next ?_
      refine CW.seq ?_
      refine CW.cond rfl (fun hc15 => ?_) (fun hc15 => ?_)
      · have hcb15 := hc15
        try simp only [decide_eq_true_eq, decide_eq_false_iff_not] at hc15
        have hk1 : k < s.toList.length := by omega
        obtain ⟨c, hc⟩ : ∃ c, s.toList[k] = c := ⟨_, rfl⟩
        have hx : (s.toList.drop k).take 1 = [c] := by rw [List.drop_eq_getElem_cons hk1, hc]; rfl
        refine CW.skip ?_
        refine AQ.next ?_
        refine CW.seq ?_
        refine CW.block ?_
        refine CW.seq ?_
        -- region 5
        refine CW.region ?_
        refine RW.op1 rfl (runs_move rfl) ?_
        refine RW.op1 rfl (runs_assign rfl) ?_
        refine RW.done ?_
        refine AQ.next ?_
        refine CW.seq ?_
        -- region 6
        refine CW.region ?_
        refine RW.op1 rfl (runs_move rfl) ?_
        refine RW.op1 rfl (runs_move rfl) ?_
        refine RW.op1 rfl (runs_move rfl) ?_
        refine RW.op1 rfl (runs_add rfl rfl (by omega)) ?_
        refine RW.op1 rfl (runs_sliceS_lh Tryd.underlying9 rfl rfl rfl (by omega)) ?_
        rw [show s.extract ((k : Int)).toNat ((k : Int) + 1).toNat = strOf [c] from by rw [extractE, show ((k : Int)).toNat = k from rfl, show ((k : Int) + 1).toNat - k = 1 by omega, hx]]
        refine RW.call rfl call62 rfl rfl (name_spec hst (strOf [c]) (by rw [strOfZ]; show 1 ≤ _; decide)) ?_
        rintro e w ⟨rfl, hstn⟩
        clear hst
        have hst := hstn
        clear hstn
        rw [strOf_toList, name_one]
        refine ⟨_, rfl, ?_⟩
        refine RW.op1 rfl (runs_not rfl) ?_
        refine RW.done ?_
        refine AQ.next ?_
        refine CW.cond rfl (fun hc23 => ?_) (fun hc23 => ?_)
        · have hcb23 := hc23
          try simp only [decide_eq_true_eq, decide_eq_false_iff_not] at hc23
          refine CW.seq ?_
          -- region 7
          refine CW.region ?_
          refine RW.op1 rfl (runs_assign rfl) ?_
          refine RW.done ?_
          refine AQ.next ?_
          refine CW.ret ?_
          refine AQ.block_ret ?_
          refine AQ.past_ret ?_
          refine AQ.past_ret ?_
          refine AQ.block_ret ?_
          refine AQ.past_ret ?_
          refine AQ.ret1 rfl rfl ?_
          have h0 : nmOk s.toList = false := by
            unfold nmOk
            rw [show s.toList.all nmB = false from by
              rw [List.all_eq_false]
              exact ⟨_, List.getElem_mem hk1, by rw [hc]; simpa using hc23⟩, Bool.and_false]
          rw [h0]
          exact ⟨rfl, hst⟩
        · have hcb23 := hc23
          try simp only [decide_eq_true_eq, decide_eq_false_iff_not] at hc23
          refine CW.skip ?_
          refine AQ.block_normal ?_
          refine AQ.next ?_
          -- region 8
          refine CW.region ?_
          refine RW.op1 rfl (runs_add rfl rfl (by omega)) ?_
          refine RW.op1 rfl (runs_move rfl) ?_
          refine RW.done ?_
          exact AQ.again (x := k) (k + 1) ⟨hst, by omega, takeE_more hall hk1 (by rw [hc]; simpa using hc23)⟩ ⟨rfl, rfl, rfl, trivial⟩ (by omega)
      · have hcb15 := hc15
        try simp only [decide_eq_true_eq, decide_eq_false_iff_not] at hc15
        skip
        refine CW.exit ?_
        refine AQ.past_exit ?_
        refine AQ.past_exit ?_
        refine AQ.block_hit ?_
        refine AQ.next ?_
        refine CW.seq ?_
        -- region 9
        refine CW.region ?_
        refine RW.op1 rfl (runs_assign rfl) ?_
        refine RW.done ?_
        refine AQ.next ?_
        refine CW.ret ?_
        refine AQ.ret1 rfl rfl ?_
        have h0 : nmOk s.toList = true := by
          unfold nmOk
          rw [decide_eq_true hle2, Bool.true_and, List.all_eq_true]
          rw [List.take_of_length_le (by omega)] at hall
          exact hall
        rw [h0]
        exact ⟨rfl, hst⟩
set_option maxRecDepth 100000 in
set_option maxHeartbeats 1000000 in
theorem rvalue_spec {w0 w : World} {I : Imm} {L : Own} (hst : St w0 w I L) (s : ByteArray) (hs : s.size ≤ 9223372036854775807) :
    Calls Tryd.prog 47 #[.string s] w fun e w' => e = .returned (.bool (vlOk s.toList)) ∧ St w0 w' I L := by
  have hsz := size_toList s
  refine enter Tryd.func47 rfl (N := 23) rfl rfl ?_
  simp only [List.zipIdx_cons, List.zipIdx_nil, List.map_cons, List.map_nil, Nat.zero_add, Nat.reduceAdd]
  have hle := Imm.le.refl I
  refine CW.seq ?_
  -- region 0
  refine CW.region ?_
  refine RW.op1 rfl (runs_assign rfl) ?_
  refine RW.done ?_
  refine AQ.next ?_
  refine CW.seq ?_
  refine CW.seq ?_
  -- region 1
  refine CW.region ?_
  refine RW.op1 rfl (runs_move rfl) ?_
  refine RW.op1 rfl (runs_lenS Tryd.underlying9 rfl) ?_
  refine RW.op1 rfl (runs_gtr rfl rfl) ?_
  refine RW.done ?_
  refine AQ.next ?_
  refine CW.cond rfl (fun hc6 => ?_) (fun hc6 => ?_)
  · have hcb6 := hc6
    try simp only [decide_eq_true_eq, decide_eq_false_iff_not] at hc6
    refine CW.seq ?_
    -- region 2
    refine CW.region ?_
    refine RW.op1 rfl (runs_assign rfl) ?_
    refine RW.done ?_
    refine AQ.next ?_
    refine CW.ret ?_
    refine AQ.past_ret ?_
    refine AQ.ret1 rfl rfl ?_
    have h0 : vlOk s.toList = false := by unfold vlOk; rw [decide_eq_false (by omega), Bool.false_and]
    rw [h0]
    exact ⟨rfl, hst⟩
  · have hcb6 := hc6
    try simp only [decide_eq_true_eq, decide_eq_false_iff_not] at hc6
    refine CW.skip ?_
    refine AQ.next ?_
    refine CW.seq ?_
    refine CW.seq ?_
    -- region 3
    refine CW.region ?_
    refine RW.op1 rfl (runs_move rfl) ?_
    refine RW.op1 rfl (runs_lenS Tryd.underlying9 rfl) ?_
    refine RW.op1 rfl (runs_move rfl) ?_
    refine RW.done ?_
    refine AQ.next ?_
    refine CW.block ?_
    -- loop 1
    refine CW.loop Nat (fun k w => St w0 w I L ∧ k ≤ s.toList.length ∧ ∀ x ∈ s.toList.take k, vlB x = true) (fun k => [(0, .string s), (8, .int .i64 (s.size : Nat)), (9, .int .i64 (k : Nat))]) (fun k => s.toList.length - k) ⟨0, ⟨hst, Nat.zero_le _, by simp⟩, ⟨rfl, rfl, rfl, trivial⟩⟩ ?_
    rintro k w ⟨hstn, hk, hall⟩
    clear hst
    have hst := hstn
    clear hstn
    refine CW.seq ?_
    -- region 4
    refine CW.region ?_
    refine RW.op1 rfl (runs_lss rfl rfl) ?_
    refine RW.done ?_
    refine AQ.next ?_
    refine CW.seq ?_
    refine CW.cond rfl (fun hc10 => ?_) (fun hc10 => ?_)
    · have hcb10 := hc10
      try simp only [decide_eq_true_eq, decide_eq_false_iff_not] at hc10
      have hk1 : k < s.toList.length := by omega
      have hgd := get_getD hk1
      obtain ⟨c, hc⟩ : ∃ c, s.toList[k] = c := ⟨_, rfl⟩
      rw [hc] at hgd
      refine CW.skip ?_
      refine AQ.next ?_
      refine CW.seq ?_
      refine CW.block ?_
      refine CW.seq ?_
      -- region 5
      refine CW.region ?_
      refine RW.op1 rfl (runs_move rfl) ?_
      refine RW.op1 rfl (runs_assign rfl) ?_
      refine RW.done ?_
      refine AQ.next ?_
      refine CW.seq ?_
      -- region 6
      refine CW.cut Unit (fun _ w => St w0 w I L) (fun _ => [(0, .string s), (8, .int .i64 (s.size : Nat)), (9, .int .i64 (k : Nat)), (21, .bool (decide (¬ (32 ≤ c.toNat ∧ c.toNat ≤ 126))))]) ?_ ?_
      · -- region 6
        refine CW.region ?_
        refine RW.op1 rfl (runs_move rfl) ?_
        refine RW.op1 rfl (runs_move rfl) ?_
        refine RW.op1 rfl (runs_indexL Tryd.underlying9 rfl rfl (by omega) (by omega)) ?_
        rw [show ((k : Nat) : Int).toNat = k from rfl, hgd]
        refine RW.op1 rfl (runs_lss rfl rfl) ?_
        refine RW.op1 rfl (runs_move rfl) ?_
        refine RW.split (t := 16) rfl (fun hb16 => ?_) (fun hb16 => ?_)
        · have hb16p := hb16
          try simp only [decide_eq_true_eq, decide_eq_false_iff_not] at hb16p
          refine RW.off_guard rfl rfl rfl rfl hb16 ?_
          refine RW.off_guard rfl rfl rfl rfl hb16 ?_
          refine RW.off_guard rfl rfl rfl rfl hb16 ?_
          refine RW.off_guard rfl rfl rfl rfl hb16 ?_
          refine RW.op1 rfl (runs_pick_true rfl hb16 rfl) ?_
          refine RW.done ?_
          exact AQ.meet () hst ⟨rfl, rfl, rfl, boolN (by simp only [decide_eq_true_eq, true_iff, Bool.false_eq_true, false_iff]; omega), trivial⟩
        · have hb16p := hb16
          try simp only [decide_eq_true_eq, decide_eq_false_iff_not] at hb16p
          refine RW.on_guard rfl rfl rfl rfl hb16 ?_
          refine RW.op1 rfl (runs_move rfl) ?_
          refine RW.on_guard rfl rfl rfl rfl hb16 ?_
          refine RW.op1 rfl (runs_move rfl) ?_
          refine RW.on_guard rfl rfl rfl rfl hb16 ?_
          refine RW.op1 rfl (runs_indexL Tryd.underlying9 rfl rfl (by omega) (by omega)) ?_
          rw [show ((k : Nat) : Int).toNat = k from rfl, hgd]
          refine RW.on_guard rfl rfl rfl rfl hb16 ?_
          refine RW.op1 rfl (runs_gtr rfl rfl) ?_
          refine RW.op1 rfl (runs_pick_false rfl hb16 rfl) ?_
          refine RW.done ?_
          exact AQ.meet () hst ⟨rfl, rfl, rfl, boolN (by simp only [decide_eq_true_eq, true_iff, Bool.false_eq_true, false_iff]; omega), trivial⟩
      · rintro _ w hstn
        clear hst
        have hst := hstn
        clear hstn
        refine AQ.next ?_
        refine CW.cond rfl (fun hc21 => ?_) (fun hc21 => ?_)
        · have hcb21 := hc21
          try simp only [decide_eq_true_eq, decide_eq_false_iff_not] at hc21
          refine CW.seq ?_
          -- region 7
          refine CW.region ?_
          refine RW.op1 rfl (runs_assign rfl) ?_
          refine RW.done ?_
          refine AQ.next ?_
          refine CW.ret ?_
          refine AQ.block_ret ?_
          refine AQ.past_ret ?_
          refine AQ.past_ret ?_
          refine AQ.block_ret ?_
          refine AQ.past_ret ?_
          refine AQ.ret1 rfl rfl ?_
          have h0 : vlOk s.toList = false := by
            unfold vlOk
            rw [show s.toList.all vlB = false from by
              rw [List.all_eq_false]
              exact ⟨_, List.getElem_mem hk1, by rw [hc]; unfold vlB; simpa using hc21⟩, Bool.and_false]
          rw [h0]
          exact ⟨rfl, hst⟩
        · have hcb21 := hc21
          try simp only [decide_eq_true_eq, decide_eq_false_iff_not] at hc21
          refine CW.skip ?_
          refine AQ.block_normal ?_
          refine AQ.next ?_
          -- region 8
          refine CW.region ?_
          refine RW.op1 rfl (runs_add rfl rfl (by omega)) ?_
          refine RW.op1 rfl (runs_move rfl) ?_
          refine RW.done ?_
          exact AQ.again (x := k) (k + 1) ⟨hst, by omega, takeE_more hall hk1 (by rw [hc]; unfold vlB; simpa using hc21)⟩ ⟨rfl, rfl, rfl, trivial⟩ (by omega)
    · have hcb10 := hc10
      try simp only [decide_eq_true_eq, decide_eq_false_iff_not] at hc10
      skip
      refine CW.exit ?_
      refine AQ.past_exit ?_
      refine AQ.past_exit ?_
      refine AQ.block_hit ?_
      refine AQ.next ?_
      refine CW.seq ?_
      -- region 9
      refine CW.region ?_
      refine RW.op1 rfl (runs_assign rfl) ?_
      refine RW.done ?_
      refine AQ.next ?_
      refine CW.ret ?_
      refine AQ.ret1 rfl rfl ?_
      have h0 : vlOk s.toList = true := by
        unfold vlOk
        rw [decide_eq_true (by omega), Bool.true_and, List.all_eq_true]
        rw [List.take_of_length_le (by omega)] at hall
        exact hall
      rw [h0]
      exact ⟨rfl, hst⟩
end Go.Proofs.YtfjghkmapccjhaaDoorX
