/- Waits, numbers of digits: what these come to. -/
import Derived.Test.YtfjghkmapccjhaaDoorT
import Derived.Test.YtfjghkmapccjhaaDoorH1
namespace Go.Proofs.YtfjghkmapccjhaaDoorX
set_option linter.unusedVariables false
set_option linter.unusedSimpArgs false
open Go Go.RowKit Go.Proofs

/-- The wait behind so many tries. -/
def delayR (t : Int) : Int := if t ≤ 0 then 1 else if t = 1 then 2 else if t = 2 then 4 else if t = 3 then 8 else 16
/-- Digits as a number; how far they are read, and whether all were digits. -/
def isDigit (c : UInt8) : Bool := decide (48 ≤ c.toNat) && decide (c.toNat ≤ 57)
def digStep (n : Int) (c : UInt8) : Int := 10 * n + ((c.toNat : Int) - 48)
def numberR (s : List UInt8) : Option Int := if s.length < 1 ∨ 6 < s.length then none else if s.all isDigit then some (s.foldl digStep 0) else none
theorem dig_take {s : List UInt8} {k : Nat} (hk : k < s.length) : (s.take (k + 1)).foldl digStep 0 = 10 * (s.take k).foldl digStep 0 + ((s[k].toNat : Int) - 48) := by
  rw [List.take_add_one, List.getElem?_eq_getElem hk, Option.toList_some, List.foldl_append]
  rfl
theorem digN_all {s : List UInt8} {k : Nat} (h : (s.take k).all isDigit = true) (hk : k < s.length) (hd : isDigit s[k] = true) : (s.take (k + 1)).all isDigit = true := by
  rw [List.take_add_one, List.getElem?_eq_getElem hk, List.all_append, h]
  simp [hd]
theorem dig_bound : ∀ (k : Nat) (s : List UInt8), s.length ≤ k → s.all isDigit = true → 0 ≤ s.foldl digStep 0 ∧ s.foldl digStep 0 < 10 ^ k := by
  intro k
  induction k with
  | zero =>
    intro s hl _
    have : s = [] := List.eq_nil_of_length_eq_zero (by omega)
    subst this
    decide
  | succ k ih =>
    intro s hl ha
    rcases List.eq_nil_or_concat s with rfl | ⟨t, c, rfl⟩
    · exact ⟨Int.le_refl 0, Int.pow_pos (by decide)⟩
    · rw [List.concat_eq_append] at hl ha ⊢
      rw [List.all_append, List.all_cons, List.all_nil, Bool.and_true, Bool.and_eq_true] at ha
      have hc : 48 ≤ c.toNat ∧ c.toNat ≤ 57 := by simpa [isDigit] using ha.2
      have := ih t (by simp at hl; omega) ha.1
      rw [List.foldl_append, List.foldl_cons, List.foldl_nil]
      unfold digStep at *
      have e : (10 : Int) ^ (k + 1) = 10 * 10 ^ k := by rw [Int.pow_succ, Int.mul_comm]
      rw [e]
      omega
theorem number_len {s : List UInt8} (h : s.length < 1 ∨ 6 < s.length) : numberR s = none := by unfold numberR; rw [if_pos h]
theorem number_bad {s : List UInt8} {k : Nat} (hk : k < s.length) (hd : isDigit s[k] = false) : numberR s = none := by
  unfold numberR
  have : s.all isDigit = false := by
    rw [List.all_eq_false]
    exact ⟨s[k], List.getElem_mem _, by rw [hd]; decide⟩
  rw [this]
  split <;> rfl
theorem number_ok {s : List UInt8} (h : ¬ (s.length < 1 ∨ 6 < s.length)) (ha : s.all isDigit = true) : numberR s = some (s.foldl digStep 0) := by unfold numberR; rw [if_neg h, if_pos ha]
theorem bget {s : ByteArray} {i : Nat} (h : i < s.size) : s[i] = s.toList[i]'(by rw [size_toList]; exact h) := by
  have e : s.toList = s.data.toList := ByteArray.toList_eq s
  have h2 : s.toList[i]? = s.data.toList[i]? := by rw [e]
  rw [List.getElem?_eq_getElem (by rw [size_toList]; exact h), List.getElem?_eq_getElem (by rw [← e, size_toList]; exact h)] at h2
  rw [Option.some.inj h2]
  rfl
set_option maxRecDepth 100000 in
set_option maxHeartbeats 1000000 in
theorem number_spec {w0 w : World} {I : Imm} {L : Own} (hst : St w0 w I L) (s : ByteArray) (hs : s.size ≤ 9223372036854775807) :
    Calls Tryd.prog 14 #[.string s] w fun e w' => e = .returned (.tuple #[.int .i64 ((numberR s.toList).getD 0), .bool (numberR s.toList).isSome]) ∧ St w0 w' I L := by
  have hsl := size_toList s
  refine enter Tryd.func14 rfl (N := 39) rfl rfl ?_
  simp only [List.zipIdx_cons, List.zipIdx_nil, List.map_cons, List.map_nil, Nat.zero_add, Nat.reduceAdd]
  have hle := Imm.le.refl I
  refine CW.seq ?_
  -- region 0
  refine CW.region ?_
  refine RW.op1 rfl (runs_assign rfl) ?_
  refine RW.op1 rfl (runs_assign rfl) ?_
  refine RW.done ?_
  refine AQ.next ?_
  refine CW.seq ?_
  refine CW.seq ?_
  -- region 1
  refine CW.region ?_
  refine RW.op1 rfl (runs_move rfl) ?_
  refine RW.op1 rfl (runs_lenS Tryd.underlying9 rfl) ?_
  refine RW.op1 rfl (runs_lss rfl rfl) ?_
  refine RW.op1 rfl (runs_move rfl) ?_
  refine RW.split (t := 9) rfl (fun hb9 => ?_) (fun hb9 => ?_)
  · have hb9p := hb9
    try simp only [decide_eq_true_eq, decide_eq_false_iff_not] at hb9p
    refine RW.off_guard rfl rfl rfl rfl hb9 ?_
    refine RW.off_guard rfl rfl rfl rfl hb9 ?_
    refine RW.off_guard rfl rfl rfl rfl hb9 ?_
    refine RW.op1 rfl (runs_pick_true rfl hb9 rfl) ?_
    refine RW.done ?_
    refine AQ.next ?_
    refine CW.cond_true rfl ?_
    refine CW.seq ?_
    -- region 2
    refine CW.region ?_
    refine RW.op1 rfl (runs_assign rfl) ?_
    refine RW.op1 rfl (runs_assign rfl) ?_
    refine RW.done ?_
    refine AQ.next ?_
    refine CW.ret ?_
    refine AQ.past_ret ?_
    refine AQ.ret2 rfl rfl rfl ?_
    rw [number_len (by omega)]
    exact ⟨rfl, hst⟩
  · have hb9p := hb9
    try simp only [decide_eq_true_eq, decide_eq_false_iff_not] at hb9p
    refine RW.on_guard rfl rfl rfl rfl hb9 ?_
    refine RW.op1 rfl (runs_move rfl) ?_
    refine RW.on_guard rfl rfl rfl rfl hb9 ?_
    refine RW.op1 rfl (runs_lenS Tryd.underlying9 rfl) ?_
    refine RW.on_guard rfl rfl rfl rfl hb9 ?_
    refine RW.op1 rfl (runs_gtr rfl rfl) ?_
    refine RW.op1 rfl (runs_pick_false rfl hb9 rfl) ?_
    refine RW.done ?_
    refine AQ.next ?_
    refine CW.cond rfl (fun hc13 => ?_) (fun hc13 => ?_)
    · have hcb13 := hc13
      try simp only [decide_eq_true_eq, decide_eq_false_iff_not] at hc13
      refine CW.seq ?_
      -- region 2
      refine CW.region ?_
      refine RW.op1 rfl (runs_assign rfl) ?_
      refine RW.op1 rfl (runs_assign rfl) ?_
      refine RW.done ?_
      refine AQ.next ?_
      refine CW.ret ?_
      refine AQ.past_ret ?_
      refine AQ.ret2 rfl rfl rfl ?_
      rw [number_len (by omega)]
      exact ⟨rfl, hst⟩
    · have hcb13 := hc13
      try simp only [decide_eq_true_eq, decide_eq_false_iff_not] at hc13
      refine CW.skip ?_
      refine AQ.next ?_
      refine CW.seq ?_
      -- region 3
      refine CW.region ?_
      refine RW.op1 rfl (runs_assign rfl) ?_
      refine RW.done ?_
      refine AQ.next ?_
      refine CW.seq ?_
      refine CW.seq ?_
      -- region 4
      refine CW.region ?_
      refine RW.op1 rfl (runs_move rfl) ?_
      refine RW.op1 rfl (runs_lenS Tryd.underlying9 rfl) ?_
      refine RW.op1 rfl (runs_move rfl) ?_
      refine RW.done ?_
      refine AQ.next ?_
      refine CW.block ?_
      -- loop 1
      refine CW.loop Nat (fun k w => St w0 w I L ∧ k ≤ s.size ∧ (s.toList.take k).all isDigit = true) (fun k => [(0, .string s), (4, .int .i64 ((s.toList.take k).foldl digStep 0)), (15, .int .i64 (s.size : Int)), (16, .int .i64 (k : Int))]) (fun k => s.size - k) ⟨0, ⟨hst, Nat.zero_le _, by simp⟩, ⟨rfl, rfl, rfl, rfl, trivial⟩⟩ ?_
      rintro k w ⟨hstn, hk, hall⟩
      clear hst
      have hst := hstn
      clear hstn
      refine CW.seq ?_
      -- region 5
      refine CW.region ?_
      refine RW.op1 rfl (runs_lss rfl rfl) ?_
      refine RW.done ?_
      refine AQ.next ?_
      refine CW.seq ?_
      refine CW.cond rfl (fun hc17 => ?_) (fun hc17 => ?_)
      · have hcb17 := hc17
        try simp only [decide_eq_true_eq, decide_eq_false_iff_not] at hc17
        have hk1 : k < s.size := by omega
        have hk2 : k < s.toList.length := by omega
        obtain ⟨c, hc⟩ : ∃ c, s.toList[k] = c := ⟨_, rfl⟩
        have hbg : s[(k : Int).toNat]'(by omega) = c := by rw [← hc]; exact bget hk1
        have hcl := c.toNat_lt
        have hb6 := dig_bound 6 (s.toList.take k) (by rw [List.length_take]; omega) hall
        refine CW.skip ?_
        refine AQ.next ?_
        refine CW.seq ?_
        refine CW.block ?_
        refine CW.seq ?_
        -- region 6
        refine CW.region ?_
        refine RW.op1 rfl (runs_move rfl) ?_
        refine RW.op1 rfl (runs_assign rfl) ?_
        refine RW.done ?_
        refine AQ.next ?_
        refine CW.seq ?_
        refine CW.seq ?_
        -- region 7
        refine CW.region ?_
        refine RW.op1 rfl (runs_move rfl) ?_
        refine RW.op1 rfl (runs_move rfl) ?_
        refine RW.op1 rfl (runs_indexS Tryd.underlying9 rfl rfl (by omega) (by omega)) ?_
        rw [hbg]
        refine RW.op1 rfl (runs_lss rfl rfl) ?_
        refine RW.op1 rfl (runs_move rfl) ?_
        refine RW.split (t := 23) rfl (fun hb23 => ?_) (fun hb23 => ?_)
        · have hb23p := hb23
          try simp only [decide_eq_true_eq, decide_eq_false_iff_not] at hb23p
          refine RW.off_guard rfl rfl rfl rfl hb23 ?_
          refine RW.off_guard rfl rfl rfl rfl hb23 ?_
          refine RW.off_guard rfl rfl rfl rfl hb23 ?_
          refine RW.off_guard rfl rfl rfl rfl hb23 ?_
          refine RW.op1 rfl (runs_pick_true rfl hb23 rfl) ?_
          refine RW.done ?_
          refine AQ.next ?_
          refine CW.cond_true rfl ?_
          refine CW.seq ?_
          -- region 8
          refine CW.region ?_
          refine RW.op1 rfl (runs_assign rfl) ?_
          refine RW.op1 rfl (runs_assign rfl) ?_
          refine RW.done ?_
          refine AQ.next ?_
          refine CW.ret ?_
          refine AQ.past_ret ?_
          refine AQ.block_ret ?_
          refine AQ.past_ret ?_
          refine AQ.past_ret ?_
          refine AQ.block_ret ?_
          refine AQ.past_ret ?_
          refine AQ.ret2 rfl rfl rfl ?_
          rw [number_bad hk2 (by rw [hc]; unfold isDigit; rw [Bool.and_eq_false_iff]; simp only [decide_eq_false_iff_not]; omega)]
          exact ⟨rfl, hst⟩
        · have hb23p := hb23
          try simp only [decide_eq_true_eq, decide_eq_false_iff_not] at hb23p
          refine RW.on_guard rfl rfl rfl rfl hb23 ?_
          refine RW.op1 rfl (runs_move rfl) ?_
          refine RW.on_guard rfl rfl rfl rfl hb23 ?_
          refine RW.op1 rfl (runs_move rfl) ?_
          refine RW.on_guard rfl rfl rfl rfl hb23 ?_
          refine RW.op1 rfl (runs_indexS Tryd.underlying9 rfl rfl (by omega) (by omega)) ?_
          rw [hbg]
          refine RW.on_guard rfl rfl rfl rfl hb23 ?_
          refine RW.op1 rfl (runs_gtr rfl rfl) ?_
          refine RW.op1 rfl (runs_pick_false rfl hb23 rfl) ?_
          refine RW.done ?_
          refine AQ.next ?_
          refine CW.cond rfl (fun hc28 => ?_) (fun hc28 => ?_)
          · have hcb28 := hc28
            try simp only [decide_eq_true_eq, decide_eq_false_iff_not] at hc28
            refine CW.seq ?_
            -- region 8
            refine CW.region ?_
            refine RW.op1 rfl (runs_assign rfl) ?_
            refine RW.op1 rfl (runs_assign rfl) ?_
            refine RW.done ?_
            refine AQ.next ?_
            refine CW.ret ?_
            refine AQ.past_ret ?_
            refine AQ.block_ret ?_
            refine AQ.past_ret ?_
            refine AQ.past_ret ?_
            refine AQ.block_ret ?_
            refine AQ.past_ret ?_
            refine AQ.ret2 rfl rfl rfl ?_
            rw [number_bad hk2 (by rw [hc]; unfold isDigit; rw [Bool.and_eq_false_iff]; simp only [decide_eq_false_iff_not]; omega)]
            exact ⟨rfl, hst⟩
          · have hcb28 := hc28
            try simp only [decide_eq_true_eq, decide_eq_false_iff_not] at hc28
            refine CW.skip ?_
            refine AQ.next ?_
            -- region 9
            refine CW.region ?_
            refine RW.op1 rfl (runs_move rfl) ?_
            refine RW.op1 rfl (runs_mul rfl rfl (by omega)) ?_
            refine RW.op1 rfl (runs_move rfl) ?_
            refine RW.op1 rfl (runs_move rfl) ?_
            refine RW.op1 rfl (runs_indexS Tryd.underlying9 rfl rfl (by omega) (by omega)) ?_
            rw [hbg]
            refine RW.op1 rfl (runs_subW rfl rfl) ?_
            rw [show IntKind.u8.wrap ((c.toNat : Int) - 48) = (c.toNat : Int) - 48 by rw [IntKind.wrap_u8]; omega]
            refine RW.op1 rfl (runs_conv64 (by rw [Tryd.underlying5]; rfl) Tryd.underlying3 rfl (by omega)) ?_
            refine RW.op1 rfl (runs_add rfl rfl (by omega)) ?_
            refine RW.op1 rfl (runs_assign rfl) ?_
            refine RW.done ?_
            refine AQ.block_normal ?_
            refine AQ.next ?_
            -- region 10
            refine CW.region ?_
            refine RW.op1 rfl (runs_add rfl rfl (by omega)) ?_
            refine RW.op1 rfl (runs_move rfl) ?_
            refine RW.done ?_
            have hd : isDigit s.toList[k] = true := by rw [hc]; unfold isDigit; simp only [Bool.and_eq_true, decide_eq_true_eq]; omega
            exact AQ.again (k + 1) ⟨hst, by omega, digN_all hall hk2 hd⟩ ⟨rfl, by rw [dig_take hk2, hc]; rfl, rfl, rfl, trivial⟩ (by omega)
      · have hcb17 := hc17
        try simp only [decide_eq_true_eq, decide_eq_false_iff_not] at hc17
        skip
        refine CW.exit ?_
        refine AQ.past_exit ?_
        refine AQ.past_exit ?_
        refine AQ.block_hit ?_
        refine AQ.next ?_
        refine CW.seq ?_
        -- region 11
        refine CW.region ?_
        refine RW.op1 rfl (runs_move rfl) ?_
        refine RW.op1 rfl (runs_assign rfl) ?_
        refine RW.op1 rfl (runs_assign rfl) ?_
        refine RW.done ?_
        refine AQ.next ?_
        refine CW.ret ?_
        refine AQ.ret2 rfl rfl rfl ?_
        have hkt : s.toList.take k = s.toList := List.take_of_length_le (by omega)
        rw [hkt] at hall ⊢
        rw [number_ok (by omega) hall]
        exact ⟨rfl, hst⟩
end Go.Proofs.YtfjghkmapccjhaaDoorX
