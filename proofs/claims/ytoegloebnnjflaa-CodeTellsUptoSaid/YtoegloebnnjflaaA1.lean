/- What the small functions over values come to; values av bytes. -/
import Derived.Test.YtoegloebnnjflaaT
import Derived.Test.YtoegloebnnjflaaA0
import Derived.Test.YtoegloebnnjflaaM1
namespace Go.Proofs.YtoegloebnnjflaaX
set_option linter.unusedVariables false
set_option linter.unusedSimpArgs false
open Go Go.RowKit Go.Proofs

set_option maxRecDepth 100000 in
set_option maxHeartbeats 1000000 in
theorem text_spec {w0 w : World} {I : Imm} {L : Own} (hst : St w0 w I L) (s : ByteArray) {n : Int} (hn : 0 ≤ n ∧ n ≤ 1000000) :
    Calls Try.prog 9 #[.string s, .int .i64 n] w fun e w' => ∃ t : ByteArray, e = .returned (.string t) ∧ t.toList = s.toList.take n.toNat ∧ St w0 w' I L := by
  refine enter Try.func9 rfl (N := 11) rfl rfl ?_
  simp only [List.zipIdx_cons, List.zipIdx_nil, List.map_cons, List.map_nil, Nat.zero_add, Nat.reduceAdd]
  have hle := Imm.le.refl I
  refine CW.seq ?_
  -- region 0
  refine CW.region ?_
  refine RW.op1 rfl (runs_assign rfl) ?_
  refine RW.done ?_
  refine AQ.next ?_
  refine CW.seq ?_
  -- region 1
  refine CW.region ?_
  refine RW.op1 rfl (runs_move rfl) ?_
  refine RW.op1 rfl (runs_move rfl) ?_
  refine RW.op1 rfl (runs_lenS Try.underlying9 rfl) ?_
  refine RW.op1 rfl (runs_move rfl) ?_
  refine RW.op1 rfl (runs_min rfl rfl) ?_
  have hm : 0 ≤ (if n < (s.size : Int) then n else (s.size : Int)) ∧ (if n < (s.size : Int) then n else (s.size : Int)) ≤ s.size := by split <;> omega
  generalize hq : (if n < (s.size : Int) then n else (s.size : Int)) = q at *
  refine RW.op1 rfl (runs_sliceS_h Try.underlying9 rfl rfl (by omega)) ?_
  refine RW.op1 rfl (runs_assign rfl) ?_
  refine RW.done ?_
  refine AQ.next ?_
  refine CW.ret ?_
  refine AQ.ret1 rfl rfl ?_
  refine ⟨_, rfl, ?_, hst⟩
  have h1 := size_toList s
  rw [ByteArray.toList_eq, ByteArray.toList_eq, ByteArray.data_extract, Array.toList_extract] 
  rw [ByteArray.toList_eq] at h1
  simp only [List.extract_eq_take_drop, Nat.sub_zero, List.drop_zero]
  rw [← hq]
  split
  · rfl
  · rw [List.take_of_length_le (by omega), List.take_of_length_le (by omega)]
set_option maxRecDepth 100000 in
set_option maxHeartbeats 1000000 in
theorem enc_spec {w0 w : World} {I : Imm} {L : Own} (hst : St w0 w I L) {v : Value} {av : List AV} {m : Nat} {o : Bool} (hv : RdA I v av) (hgood : ∀ a ∈ av, a.good m o) (hlen : av.length ≤ 1000) :
    Calls Try.prog 10 #[v] w fun r w' => ∃ I' v', Imm.le I I' ∧ r = .returned (.tuple #[v', .int .i64 (if encOk av then 0 else 1)]) ∧ St w0 w' I' L ∧ RdB I' v' (if encOk av then encA av else []) := by
  refine enter Try.func10 rfl (N := 65) rfl rfl ?_
  simp only [List.zipIdx_cons, List.zipIdx_nil, List.map_cons, List.map_nil, Nat.zero_add, Nat.reduceAdd]
  have hle := Imm.le.refl I
  refine CW.seq ?_
  -- region 0
  refine CW.region ?_
  refine RW.op1 rfl (runs_assign rfl) ?_
  refine RW.op1 rfl (runs_assign rfl) ?_
  refine RW.done ?_
  refine AQ.next ?_
  refine CW.seq ?_
  -- region 1
  refine CW.region ?_
  refine RW.op1 rfl (runs_assign rfl) ?_
  refine RW.done ?_
  refine AQ.next ?_
  refine CW.seq ?_
  refine CW.seq ?_
  -- region 2
  refine CW.region ?_
  refine RW.op1 rfl (runs_move rfl) ?_
  first
    | refine RW.op1 rfl (RdL.len Try.underlying23 rfl (by assumption)) ?_
    | refine RW.op1 rfl (runs_lenL Try.underlying23 rfl) ?_
    | refine RW.op1 rfl (Grow.len Try.underlying23 rfl (by assumption)) ?_
  refine RW.op1 rfl (runs_move rfl) ?_
  refine RW.done ?_
  refine AQ.next ?_
  refine CW.block ?_
  -- loop 1
  refine CW.loop (Nat × Value × Own × Imm) (fun x w => I.le x.2.2.2 ∧ St w0 w x.2.2.2 (x.2.2.1 ++ L) ∧ GrowB 5 x.2.1 (encA (av.take x.1)) x.2.2.1 ∧ encOk (av.take x.1) = true ∧ x.1 ≤ av.length) (fun x => [(12, v), (13, .int .i64 (av.length : Int)), (14, .int .i64 (x.1 : Int)), (4, x.2.1)]) (fun x => av.length - x.1) ⟨(0, .slice none 0 0, [], I), ⟨Imm.le.refl _, hst, by rw [List.take_zero]; exact GrowB.nil _, rfl, Nat.zero_le _⟩, ⟨rfl, rfl, rfl, rfl, trivial⟩⟩ ?_
  rintro ⟨k, vo, Lo, I5⟩ w ⟨hle, hstn, hg, hok, hk0⟩
  dsimp only at hle hstn hg hok hk0 ⊢
  clear hst
  have hst := hstn
  clear hstn
  refine CW.seq ?_
  -- region 3
  refine CW.region ?_
  refine RW.op1 rfl (runs_lss rfl rfl) ?_
  refine RW.done ?_
  refine AQ.next ?_
  refine CW.seq ?_
  refine CW.cond rfl (fun hc15 => ?_) (fun hc15 => ?_)
  · have hcb15 := hc15
    try simp only [decide_eq_true_eq, decide_eq_false_iff_not] at hc15
    have hk : k < av.length := by omega
    have hga := hgood _ (List.getElem_mem hk)
    have hvk := RdL.mono hle hv
    have hsz := encA_le hok
    have htk : (av.take k).length ≤ 1000 := by rw [List.length_take]; omega
    have hat := RdA.at (i := (k : Int)) hvk (by omega) (by omega)
    simp only [Int.toNat_natCast] at hat
    obtain ⟨a, ha⟩ : ∃ a, av[k] = a := ⟨_, rfl⟩
    have e1 : av[k] = a := ha
    rw [ha] at hat hga
    have hisI := AV.isI hga
    refine CW.skip ?_
    refine AQ.next ?_
    refine CW.seq ?_
    refine CW.block ?_
    refine CW.seq ?_
    -- region 4
    refine CW.region ?_
    refine RW.op1 rfl (RdL.indexAddr Try.underlying23 ti20 (by decide) rfl rfl hvk (by omega)) ?_
    refine RW.op1 rfl (runs_load1 sc20 rfl (hst.cell_imm hat)) ?_
    refine RW.op1 rfl (runs_assign rfl) ?_
    refine RW.done ?_
    refine AQ.next ?_
    refine CW.seq ?_
    -- region 5
    refine CW.region ?_
    refine RW.op1 rfl (runs_move rfl) ?_
    refine RW.done ?_
    refine AQ.next ?_
    refine CW.block ?_
    refine CW.seq ?_
    -- region 8
    refine CW.region ?_
    refine RW.op1 rfl (runs_assertOk con3 ti3 rfl (AV.isI hga)) ?_
    refine RW.op1 rfl (runs_extract rfl rfl) ?_
    refine RW.op1 rfl (runs_extract rfl rfl) ?_
    refine RW.done ?_
    refine AQ.next ?_
    refine CW.cond rfl (fun hc20 => ?_) (fun hc20 => ?_)
    · have hcb20 := hc20
      try simp only [decide_eq_true_eq, decide_eq_false_iff_not] at hc20
      obtain ⟨n, rfl⟩ := AV.asB_num hga hcb20
      refine CW.seq ?_
      -- region 9
      refine CW.region ?_
      refine RW.op1 rfl (runs_assign rfl) ?_
      refine RW.done ?_
      refine AQ.next ?_
      refine CW.seq ?_
      -- region 10
      refine CW.region ?_
      refine RW.op1 rfl (runs_move rfl) ?_
      refine RW.opE rfl (runs_litB (bs := [105]) rfl Try.underlying26 ti5 (by decide) rfl rfl rfl hst) ?_
      rintro u1 w ⟨I1, hI1, hstn, h1⟩
      clear hst
      have hst := hstn
      clear hstn
      replace hle := hle.trans hI1
      refine RW.opE rfl (runs_appendB Try.underlying26 ti5 rfl rfl hst (by assumption) (by assumption) (by (try simp) <;> omega)) ?_
      rintro u2 w ⟨Lv2, hstn, hg2⟩
      clear hst
      have hst := hstn
      clear hstn
      refine RW.op1 rfl (runs_assign rfl) ?_
      refine RW.done ?_
      refine AQ.next ?_
      refine CW.seq ?_
      -- region 11
      refine CW.region ?_
      refine RW.op1 rfl (runs_move rfl) ?_
      refine RW.done ?_
      refine AQ.next ?_
      refine CW.block ?_
      -- loop 2
      refine CW.loop (Nat × Value × Own × Imm) (fun x w => I.le x.2.2.2 ∧ St w0 w x.2.2.2 (x.2.2.1 ++ L) ∧ GrowB 5 x.2.1 (encA (av.take k) ++ [105] ++ (be8 n).take x.1) x.2.2.1 ∧ x.1 ≤ 8) (fun x => [(12, v), (13, .int .i64 (av.length : Int)), (14, .int .i64 (k : Int)), (7, .int .i64 n), (4, x.2.1), (25, .int .i64 (x.1 : Int))]) (fun x => 8 - x.1) ⟨(0, _, _, _), ⟨hle, hst, by rw [List.take_zero, List.append_nil]; assumption, by omega⟩, ⟨rfl, rfl, rfl, rfl, rfl, rfl, trivial⟩⟩ ?_
      rintro ⟨j, vi, Li, I6⟩ w ⟨hle, hstn, hg, hj0⟩
      dsimp only at hle hstn hg hj0 ⊢
      clear hst
      have hst := hstn
      clear hstn
      refine CW.seq ?_
      -- region 12
      refine CW.region ?_
      refine RW.op1 rfl (runs_lss rfl rfl) ?_
      refine RW.done ?_
      refine AQ.next ?_
      refine CW.seq ?_
      refine CW.cond rfl (fun hc26 => ?_) (fun hc26 => ?_)
      · have hcb26 := hc26
        try simp only [decide_eq_true_eq, decide_eq_false_iff_not] at hc26
        have hj : j < 8 := by omega
        have hbl : ((be8 n).take j).length ≤ 8 := by rw [List.length_take]; omega
        refine CW.skip ?_
        refine AQ.next ?_
        refine CW.seq ?_
        refine CW.block ?_
        refine CW.seq ?_
        -- region 13
        refine CW.region ?_
        refine RW.op1 rfl (runs_move rfl) ?_
        refine RW.op1 rfl (runs_assign rfl) ?_
        refine RW.done ?_
        refine AQ.next ?_
        -- region 14
        refine CW.region ?_
        refine RW.op1 rfl (runs_move rfl) ?_
        refine RW.op1 rfl (runs_move rfl) ?_
        refine RW.op1 rfl (runs_convI (by rw [Try.underlying3]; rfl) Try.underlying61 rfl) ?_
        refine RW.op1 rfl (runs_move rfl) ?_
        refine RW.op1 rfl (runs_sub rfl rfl (by omega)) ?_
        refine RW.op1 rfl (runs_mul rfl rfl (by omega)) ?_
        have e33 : (8 : Int) * (7 - (j : Int)) = ((8 * (7 - j) : Nat) : Int) := by omega
        rw [e33]
        refine RW.op1 rfl (runs_shr (n := 8 * (7 - j)) rfl rfl (by show 8 * (7 - j) ≤ 64; omega)) ?_
        refine RW.op1 rfl (runs_convB (by rw [Try.underlying61]; rfl) Try.underlying5 rfl) ?_
        refine RW.opE rfl (runs_litB (bs := [_]) rfl Try.underlying26 ti5 (by decide) rfl rfl rfl hst) ?_
        rintro u3 w ⟨I3, hI3, hstn, h3⟩
        clear hst
        have hst := hstn
        clear hstn
        replace hle := hle.trans hI3
        refine RW.opE rfl (runs_appendB Try.underlying26 ti5 rfl rfl hst (by assumption) (by assumption) (by (try simp) <;> omega)) ?_
        rintro u4 w ⟨Lv4, hstn, hg4⟩
        clear hst
        have hst := hstn
        clear hstn
        refine RW.op1 rfl (runs_assign rfl) ?_
        refine RW.done ?_
        refine AQ.block_normal ?_
        refine AQ.next ?_
        -- region 15
        refine CW.region ?_
        refine RW.op1 rfl (runs_add rfl rfl (by omega)) ?_
        refine RW.op1 rfl (runs_move rfl) ?_
        refine RW.done ?_
        exact AQ.again (x := (j, vi, Li, I6)) (j + 1, _, _, _) ⟨hle, hst, by rw [be8_take n hj, ← List.append_assoc]; assumption, by omega⟩ ⟨rfl, rfl, rfl, rfl, rfl, rfl, trivial⟩ (by dsimp only; omega)
      · have hcb26 := hc26
        try simp only [decide_eq_true_eq, decide_eq_false_iff_not] at hc26
        skip
        refine CW.exit ?_
        refine AQ.past_exit ?_
        refine AQ.past_exit ?_
        refine AQ.block_hit ?_
        refine AQ.block_normal ?_
        refine AQ.block_normal ?_
        refine AQ.next ?_
        -- region 26
        refine CW.region ?_
        refine RW.op1 rfl (runs_add rfl rfl (by omega)) ?_
        refine RW.op1 rfl (runs_move rfl) ?_
        refine RW.done ?_
        have hb8 : (be8 n).take j = be8 n := List.take_of_length_le (by rw [be8_length]; omega)
        rw [hb8] at hg
        exact AQ.again (x := (k, vo, Lo, I5)) (k + 1, _, _, _) ⟨hle, hst, by rw [encA_take hk, e1]; simpa [enc1] using hg, encOk_take hk hok (by rw [e1]; rfl), by omega⟩ ⟨rfl, rfl, rfl, rfl, trivial⟩ (by dsimp only; omega)
    · have hcb20 := hc20
      try simp only [decide_eq_true_eq, decide_eq_false_iff_not] at hc20
      skip
      refine CW.seq ?_
      -- region 16
      refine CW.region ?_
      refine RW.op1 rfl (runs_assertOk con9 ti9 rfl (by first | rfl | assumption)) ?_
      refine RW.op1 rfl (runs_extract rfl rfl) ?_
      refine RW.op1 rfl (runs_extract rfl rfl) ?_
      refine RW.done ?_
      refine AQ.next ?_
      refine CW.cond rfl (fun hc40 => ?_) (fun hc40 => ?_)
      · have hcb40 := hc40
        try simp only [decide_eq_true_eq, decide_eq_false_iff_not] at hc40
        obtain ⟨b, rfl⟩ := AV.asB_txt hga hcb40
        refine CW.seq ?_
        -- region 17
        refine CW.region ?_
        refine RW.op1 rfl (runs_assign rfl) ?_
        refine RW.done ?_
        refine AQ.next ?_
        refine CW.seq ?_
        refine CW.seq ?_
        -- region 18
        refine CW.region ?_
        refine RW.op1 rfl (runs_move rfl) ?_
        refine RW.op1 rfl (runs_lenS Try.underlying9 rfl) ?_
        refine RW.op1 rfl (runs_gtr rfl rfl) ?_
        refine RW.done ?_
        refine AQ.next ?_
        refine CW.cond rfl (fun hc44 => ?_) (fun hc44 => ?_)
        · have hcb44 := hc44
          try simp only [decide_eq_true_eq, decide_eq_false_iff_not] at hc44
          skip
          refine CW.seq ?_
          -- region 19
          refine CW.region ?_
          refine RW.op1 rfl (runs_assign rfl) ?_
          refine RW.op1 rfl (runs_assign rfl) ?_
          refine RW.done ?_
          refine AQ.next ?_
          refine CW.ret ?_
          refine AQ.past_ret ?_
          refine AQ.block_ret ?_
          refine AQ.block_ret ?_
          refine AQ.past_ret ?_
          refine AQ.past_ret ?_
          refine AQ.block_ret ?_
          refine AQ.past_ret ?_
          refine AQ.ret2 rfl rfl rfl ?_
          rw [encOk_no hk (by rw [e1]; simp [enc1Ok]; omega)]
          exact ⟨_, _, hle, rfl, hst.sub (List.sublist_append_right _ _), RdL.nil 1⟩
        · have hcb44 := hc44
          try simp only [decide_eq_true_eq, decide_eq_false_iff_not] at hc44
          have hbl := size_toList b
          refine CW.skip ?_
          refine AQ.next ?_
          -- region 20
          refine CW.region ?_
          refine RW.op1 rfl (runs_move rfl) ?_
          refine RW.op1 rfl (runs_move rfl) ?_
          refine RW.op1 rfl (runs_lenS Try.underlying9 rfl) ?_
          refine RW.op1 rfl (runs_convB (by rw [Try.underlying3]; rfl) Try.underlying5 rfl) ?_
          refine RW.opE rfl (runs_litB (bs := [115, _]) rfl Try.underlying26 ti5 (by decide) rfl rfl rfl hst) ?_
          rintro u5 w ⟨I5, hI5, hstn, h5⟩
          clear hst
          have hst := hstn
          clear hstn
          replace hle := hle.trans hI5
          refine RW.opE rfl (runs_appendB Try.underlying26 ti5 rfl rfl hst (by assumption) (by assumption) (by (try simp) <;> omega)) ?_
          rintro u6 w ⟨Lv6, hstn, hg6⟩
          clear hst
          have hst := hstn
          clear hstn
          refine RW.op1 rfl (runs_move rfl) ?_
          refine RW.opE rfl (runs_appendS Try.underlying26 ti5 Try.underlying9 rfl rfl hst (by assumption) (by (try simp) <;> omega)) ?_
          rintro u7 w ⟨Lv7, hstn, hg7⟩
          clear hst
          have hst := hstn
          clear hstn
          refine RW.op1 rfl (runs_assign rfl) ?_
          refine RW.done ?_
          refine AQ.block_normal ?_
          refine AQ.block_normal ?_
          refine AQ.next ?_
          -- region 26
          refine CW.region ?_
          refine RW.op1 rfl (runs_add rfl rfl (by omega)) ?_
          refine RW.op1 rfl (runs_move rfl) ?_
          refine RW.done ?_
          skip
          exact AQ.again (x := (k, vo, Lo, I5)) (k + 1, _, _, _) ⟨hle, hst, by rw [encA_take hk, e1]; simpa [enc1] using (by assumption : GrowB 5 _ (encA (av.take k) ++ [115, u8 b.size] ++ b.toList) _), encOk_take hk hok (by rw [e1]; simp [enc1Ok]; omega), by omega⟩ ⟨rfl, rfl, rfl, rfl, trivial⟩ (by dsimp only; omega)
      · have hcb40 := hc40
        try simp only [decide_eq_true_eq, decide_eq_false_iff_not] at hc40
        skip
        refine CW.seq ?_
        -- region 21
        refine CW.region ?_
        refine RW.op1 rfl (runs_assertOk con4 ti4 rfl (by first | rfl | assumption)) ?_
        refine RW.op1 rfl (runs_extract rfl rfl) ?_
        refine RW.op1 rfl (runs_extract rfl rfl) ?_
        refine RW.done ?_
        refine AQ.next ?_
        refine CW.cond rfl (fun hc54 => ?_) (fun hc54 => ?_)
        · have hcb54 := hc54
          try simp only [decide_eq_true_eq, decide_eq_false_iff_not] at hc54
          obtain ⟨b, rfl⟩ := AV.asB_flg hga hcb54
          refine CW.seq ?_
          -- region 22
          refine CW.region ?_
          refine RW.op1 rfl (runs_assign rfl) ?_
          refine RW.done ?_
          refine AQ.next ?_
          refine CW.seq ?_
          -- region 23
          refine CW.region ?_
          refine RW.op1 rfl (runs_move rfl) ?_
          refine RW.done ?_
          refine AQ.next ?_
          refine CW.cond rfl (fun hc56 => ?_) (fun hc56 => ?_)
          · have hcb56 := hc56
            try simp only [decide_eq_true_eq, decide_eq_false_iff_not] at hc56
            -- region 24
            refine CW.region ?_
            refine RW.op1 rfl (runs_move rfl) ?_
            refine RW.opE rfl (runs_litB (bs := [116]) rfl Try.underlying26 ti5 (by decide) rfl rfl rfl hst) ?_
            rintro u8 w ⟨I8, hI8, hstn, h8⟩
            clear hst
            have hst := hstn
            clear hstn
            replace hle := hle.trans hI8
            refine RW.opE rfl (runs_appendB Try.underlying26 ti5 rfl rfl hst (by assumption) (by assumption) (by (try simp) <;> omega)) ?_
            rintro u9 w ⟨Lv9, hstn, hg9⟩
            clear hst
            have hst := hstn
            clear hstn
            refine RW.op1 rfl (runs_assign rfl) ?_
            refine RW.done ?_
            refine AQ.block_normal ?_
            refine AQ.block_normal ?_
            refine AQ.next ?_
            -- region 26
            refine CW.region ?_
            refine RW.op1 rfl (runs_add rfl rfl (by omega)) ?_
            refine RW.op1 rfl (runs_move rfl) ?_
            refine RW.done ?_
            subst hcb56
            exact AQ.again (x := (k, vo, Lo, I5)) (k + 1, _, _, _) ⟨hle, hst, by rw [encA_take hk, e1]; simpa [enc1] using (by assumption : GrowB 5 _ (encA (av.take k) ++ [116]) _), encOk_take hk hok (by rw [e1]; rfl), by omega⟩ ⟨rfl, rfl, rfl, rfl, trivial⟩ (by dsimp only; omega)
          · have hcb56 := hc56
            try simp only [decide_eq_true_eq, decide_eq_false_iff_not] at hc56
            -- region 25
            refine CW.region ?_
            refine RW.op1 rfl (runs_move rfl) ?_
            refine RW.opE rfl (runs_litB (bs := [102]) rfl Try.underlying26 ti5 (by decide) rfl rfl rfl hst) ?_
            rintro u10 w ⟨I10, hI10, hstn, h10⟩
            clear hst
            have hst := hstn
            clear hstn
            replace hle := hle.trans hI10
            refine RW.opE rfl (runs_appendB Try.underlying26 ti5 rfl rfl hst (by assumption) (by assumption) (by (try simp) <;> omega)) ?_
            rintro u11 w ⟨Lv11, hstn, hg11⟩
            clear hst
            have hst := hstn
            clear hstn
            refine RW.op1 rfl (runs_assign rfl) ?_
            refine RW.done ?_
            refine AQ.block_normal ?_
            refine AQ.block_normal ?_
            refine AQ.next ?_
            -- region 26
            refine CW.region ?_
            refine RW.op1 rfl (runs_add rfl rfl (by omega)) ?_
            refine RW.op1 rfl (runs_move rfl) ?_
            refine RW.done ?_
            subst hcb56
            exact AQ.again (x := (k, vo, Lo, I5)) (k + 1, _, _, _) ⟨hle, hst, by rw [encA_take hk, e1]; simpa [enc1] using (by assumption : GrowB 5 _ (encA (av.take k) ++ [102]) _), encOk_take hk hok (by rw [e1]; rfl), by omega⟩ ⟨rfl, rfl, rfl, rfl, trivial⟩ (by dsimp only; omega)
        · have hcb54 := hc54
          try simp only [decide_eq_true_eq, decide_eq_false_iff_not] at hc54
          obtain ⟨u, rfl⟩ := AV.asB_oth hcb20 hcb40 hcb54
          refine CW.seq ?_
          -- region 6
          refine CW.region ?_
          refine RW.op1 rfl (runs_assign rfl) ?_
          refine RW.done ?_
          refine AQ.next ?_
          refine CW.seq ?_
          -- region 7
          refine CW.region ?_
          refine RW.op1 rfl (runs_assign rfl) ?_
          refine RW.op1 rfl (runs_assign rfl) ?_
          refine RW.done ?_
          refine AQ.next ?_
          refine CW.ret ?_
          refine AQ.block_ret ?_
          refine AQ.block_ret ?_
          refine AQ.past_ret ?_
          refine AQ.past_ret ?_
          refine AQ.block_ret ?_
          refine AQ.past_ret ?_
          refine AQ.ret2 rfl rfl rfl ?_
          rw [encOk_no hk (by rw [e1]; rfl)]
          exact ⟨_, _, hle, rfl, hst.sub (List.sublist_append_right _ _), RdL.nil 1⟩
  · have hcb15 := hc15
    try simp only [decide_eq_true_eq, decide_eq_false_iff_not] at hc15
    skip
    refine CW.exit ?_
    refine AQ.past_exit ?_
    refine AQ.past_exit ?_
    refine AQ.block_hit ?_
    refine AQ.next ?_
    refine CW.seq ?_
    -- region 27
    refine CW.region ?_
    refine RW.op1 rfl (runs_move rfl) ?_
    refine RW.op1 rfl (runs_assign rfl) ?_
    refine RW.op1 rfl (runs_assign rfl) ?_
    refine RW.done ?_
    refine AQ.next ?_
    refine CW.ret ?_
    refine AQ.ret2 rfl rfl rfl ?_
    have hkl : av.take k = av := List.take_of_length_le (by omega)
    rw [hkl] at hok hg
    rw [hok]
    obtain ⟨I', hI, hst, hr⟩ := GrowB.freeze hg hst
    exact ⟨I', _, hle.trans hI, rfl, hst, hr⟩
set_option maxRecDepth 100000 in
set_option maxHeartbeats 1000000 in
theorem values_spec {w0 w : World} {I : Imm} {L : Own} (hst : St w0 w I L) {v : Value} {xs : List Int} (hv : RdI I v xs) (hxs : ∀ n ∈ xs, i64ok n) (hl : xs.length ≤ 9223372036854775807) (s : ByteArray) (hs : s.size ≤ 1000) (bad : Int) (hbad : i64ok bad) (o : Bool) (ho : o = false → within bad 30 < 27) :
    Calls Try.prog 8 #[v, .string s, .int .i64 bad] w fun e w' => ∃ I' v' av, Imm.le I I' ∧ e = .returned v' ∧ St w0 w' I' L ∧ RdA I' v' av ∧ (∀ a ∈ av, a.good (max 255 (s.size + 1)) o) ∧ av.length ≤ 18 := by
  unfold i64ok at hbad
  have hMs : s.size + 1 ≤ max 255 (s.size + 1) := Nat.le_max_right _ _
  have hM2 : 255 ≤ max 255 (s.size + 1) := Nat.le_max_left _ _
  generalize hM : max 255 (s.size + 1) = M at *
  refine enter Try.func8 rfl (N := 109) rfl rfl ?_
  simp only [List.zipIdx_cons, List.zipIdx_nil, List.map_cons, List.map_nil, Nat.zero_add, Nat.reduceAdd]
  have hle := Imm.le.refl I
  refine CW.seq ?_
  -- region 0
  refine CW.region ?_
  refine RW.op1 rfl (runs_assign rfl) ?_
  refine RW.done ?_
  refine AQ.next ?_
  refine CW.seq ?_
  -- region 1
  refine CW.region ?_
  refine RW.op1 rfl (runs_assign rfl) ?_
  refine RW.done ?_
  refine AQ.next ?_
  refine CW.seq ?_
  refine CW.seq ?_
  -- region 2
  refine CW.region ?_
  refine RW.op1 rfl (runs_assign rfl) ?_
  refine RW.done ?_
  refine AQ.next ?_
  refine CW.block ?_
  -- loop 1
  refine CW.loop (Nat × Value × List AV × Own × Imm) (fun x w => I.le x.2.2.2.2 ∧ St w0 w x.2.2.2.2 (x.2.2.2.1 ++ L) ∧ GrowA x.2.1 x.2.2.1 x.2.2.2.1 ∧ (∀ a ∈ x.2.2.1, a.good M o) ∧ x.2.2.1.length ≤ x.1 ∧ x.1 ≤ 17) (fun x => [(0, v), (1, .string s), (2, .int .i64 bad), (7, x.2.1), (8, .int .i64 (x.1 : Int))]) (fun x => 18 - x.1) ⟨(0, .slice none 0 0, [], [], I), ⟨Imm.le.refl _, hst, Grow.nil _ _, by simp, Nat.le_refl _, by omega⟩, ⟨rfl, rfl, rfl, rfl, rfl, trivial⟩⟩ ?_
  rintro ⟨k, vo, av, Lo, I5⟩ w ⟨hle, hstn, hg, hgd, hal, hk⟩
  dsimp only at hle hstn hg hgd hal hk ⊢
  clear hst
  have hst := hstn
  clear hstn
  have hlk := RdL.mono hle hv
  refine CW.seq ?_
  refine CW.seq ?_
  -- region 3
  refine CW.region ?_
  refine RW.op1 rfl (runs_move rfl) ?_
  refine RW.op1 rfl (runs_add rfl rfl (by omega)) ?_
  refine RW.op1 rfl (runs_move rfl) ?_
  refine RW.op1 rfl (RdL.len Try.underlying22 rfl hlk) ?_
  refine RW.op1 rfl (runs_lss rfl rfl) ?_
  refine RW.op1 rfl (runs_move rfl) ?_
  refine RW.split (t := 14) rfl (fun hb14 => ?_) (fun hb14 => ?_)
  · have hb14p := hb14
    try simp only [decide_eq_true_eq, decide_eq_false_iff_not] at hb14p
    refine RW.on_guard rfl rfl rfl rfl hb14 ?_
    refine RW.op1 rfl (runs_move rfl) ?_
    refine RW.on_guard rfl rfl rfl rfl hb14 ?_
    refine RW.op1 rfl (runs_lss rfl rfl) ?_
    refine RW.op1 rfl (runs_pick_true rfl hb14 rfl) ?_
    refine RW.done ?_
    refine AQ.next ?_
    refine CW.cond rfl (fun hc17 => ?_) (fun hc17 => ?_)
    · have hcb17 := hc17
      try simp only [decide_eq_true_eq, decide_eq_false_iff_not] at hc17
      have hk1 : (k : Int) + 1 < xs.length := by omega
      have hk16 : (k : Int) < 16 := by omega
      refine CW.skip ?_
      refine AQ.next ?_
      refine CW.seq ?_
      refine CW.block ?_
      refine CW.seq ?_
      -- region 5
      refine CW.region ?_
      refine RW.op1 rfl (runs_move rfl) ?_
      refine RW.op1 rfl (runs_move rfl) ?_
      first
        | refine RW.op1 rfl (RdL.indexAddr Try.underlying22 ti3 (by decide) rfl rfl (by assumption) (by omega)) ?_
        | refine RW.op1 rfl (runs_indexAddr0 Try.underlying22 ti3 rfl rfl (by omega)) ?_
      have hok23 := iat_ok (i := (k : Int)) hxs (by omega) (by omega)
      unfold i64ok at hok23
      refine RW.op1 rfl (runs_load1 sc3 rfl (hst.cell_imm (RdI.at hlk (by omega) (by omega)))) ?_
      refine RW.call rfl call14 rfl rfl (within_spec hst (v := iat xs (k : Int)) (n := 7) (by unfold i64ok; omega) (by unfold i64ok; omega)) ?_
      rintro e w ⟨rfl, hstn⟩
      clear hst
      have hst := hstn
      clear hstn
      have hw24 := within_range (iat xs (k : Int)) (7)
      generalize hx24 : within (iat xs (k : Int)) (7) = x24 at *
      refine ⟨_, rfl, ?_⟩
      refine RW.done ?_
      refine AQ.next ?_
      refine CW.block ?_
      refine CW.seq ?_
      refine CW.seq ?_
      -- region 7
      refine CW.region ?_
      refine RW.op1 rfl (runs_eqI rfl rfl) ?_
      refine RW.op1 rfl (runs_assign rfl) ?_
      refine RW.done ?_
      refine AQ.next ?_
      refine CW.cond rfl (fun hc39 => ?_) (fun hc39 => ?_)
      · have hcb39 := hc39
        try simp only [decide_eq_true_eq, decide_eq_false_iff_not] at hc39
        refine CW.skip ?_
        refine AQ.next ?_
        refine CW.cond rfl (fun _ => ?_) (fun hc => absurd (hcb39.symm.trans hc) (by decide))
        -- region 9
        refine CW.region ?_
        refine RW.op1 rfl (runs_move rfl) ?_
        refine RW.op1 rfl (runs_move rfl) ?_
        refine RW.op1 rfl (runs_move rfl) ?_
        refine RW.op1 rfl (runs_add rfl rfl (by omega)) ?_
        first
          | refine RW.op1 rfl (RdL.indexAddr Try.underlying22 ti3 (by decide) rfl rfl (by assumption) (by omega)) ?_
          | refine RW.op1 rfl (runs_indexAddr0 Try.underlying22 ti3 rfl rfl (by omega)) ?_
        have hok47 := iat_ok (i := (k : Int) + 1) hxs (by omega) (by omega)
        refine RW.op1 rfl (runs_load1 sc3 rfl (hst.cell_imm (RdI.at hlk (by omega) (by omega)))) ?_
        refine RW.op1 rfl (runs_makeIface con3 rfl) ?_
        refine RW.opE rfl (runs_lit1R Try.underlying23 ti20 (by decide) rfl rfl rfl (by simp [Value.oneCell']) hst) ?_
        rintro u2 w ⟨I2, hI2, hstn, h2⟩
        clear hst
        have hst := hstn
        clear hstn
        replace hlk := hlk.mono hI2
        replace hle := hle.trans hI2
        refine RW.opE rfl (runs_appendR Try.underlying23 ti20 rfl (by decide) rfl rfl hst (by assumption) (by assumption) (by (try simp) <;> omega) (by (try simp) <;> (try unfold maxLen) <;> omega)) ?_
        rintro u3 w ⟨Lv3, hstn, hg3⟩
        clear hst
        have hst := hstn
        clear hstn
        refine RW.op1 rfl (runs_assign rfl) ?_
        refine RW.done ?_
        refine AQ.block_normal ?_
        refine AQ.block_normal ?_
        refine AQ.next ?_
        -- region 4
        refine CW.region ?_
        refine RW.op1 rfl (runs_move rfl) ?_
        refine RW.op1 rfl (runs_add rfl rfl (by omega)) ?_
        refine RW.op1 rfl (runs_assign rfl) ?_
        refine RW.done ?_
        skip
        exact AQ.again (x := (k, vo, av, Lo, I5)) (k + 2, _, av ++ [.num _], _, _) ⟨hle, hst, GrowA.push (by assumption), good_push (a := .num _) hgd hok47, by rw [List.length_append]; simp only [List.length_cons, List.length_nil]; omega, by omega⟩ ⟨rfl, rfl, rfl, rfl, rfl, trivial⟩ (by dsimp only; omega)
      · have hcb39 := hc39
        try simp only [decide_eq_true_eq, decide_eq_false_iff_not] at hc39
        -- region 8
        refine CW.region ?_
        refine RW.op1 rfl (runs_eqI rfl rfl) ?_
        refine RW.op1 rfl (runs_assign rfl) ?_
        refine RW.done ?_
        refine AQ.next ?_
        refine CW.cond rfl (fun hc39 => ?_) (fun hc39 => ?_)
        · have hcb39 := hc39
          try simp only [decide_eq_true_eq, decide_eq_false_iff_not] at hc39
          -- region 9
          refine CW.region ?_
          refine RW.op1 rfl (runs_move rfl) ?_
          refine RW.op1 rfl (runs_move rfl) ?_
          refine RW.op1 rfl (runs_move rfl) ?_
          refine RW.op1 rfl (runs_add rfl rfl (by omega)) ?_
          first
            | refine RW.op1 rfl (RdL.indexAddr Try.underlying22 ti3 (by decide) rfl rfl (by assumption) (by omega)) ?_
            | refine RW.op1 rfl (runs_indexAddr0 Try.underlying22 ti3 rfl rfl (by omega)) ?_
          have hok47 := iat_ok (i := (k : Int) + 1) hxs (by omega) (by omega)
          refine RW.op1 rfl (runs_load1 sc3 rfl (hst.cell_imm (RdI.at hlk (by omega) (by omega)))) ?_
          refine RW.op1 rfl (runs_makeIface con3 rfl) ?_
          refine RW.opE rfl (runs_lit1R Try.underlying23 ti20 (by decide) rfl rfl rfl (by simp [Value.oneCell']) hst) ?_
          rintro u4 w ⟨I4, hI4, hstn, h4⟩
          clear hst
          have hst := hstn
          clear hstn
          replace hlk := hlk.mono hI4
          replace hle := hle.trans hI4
          refine RW.opE rfl (runs_appendR Try.underlying23 ti20 rfl (by decide) rfl rfl hst (by assumption) (by assumption) (by (try simp) <;> omega) (by (try simp) <;> (try unfold maxLen) <;> omega)) ?_
          rintro u5 w ⟨Lv5, hstn, hg5⟩
          clear hst
          have hst := hstn
          clear hstn
          refine RW.op1 rfl (runs_assign rfl) ?_
          refine RW.done ?_
          refine AQ.block_normal ?_
          refine AQ.block_normal ?_
          refine AQ.next ?_
          -- region 4
          refine CW.region ?_
          refine RW.op1 rfl (runs_move rfl) ?_
          refine RW.op1 rfl (runs_add rfl rfl (by omega)) ?_
          refine RW.op1 rfl (runs_assign rfl) ?_
          refine RW.done ?_
          skip
          exact AQ.again (x := (k, vo, av, Lo, I5)) (k + 2, _, av ++ [.num _], _, _) ⟨hle, hst, GrowA.push (by assumption), good_push (a := .num _) hgd hok47, by rw [List.length_append]; simp only [List.length_cons, List.length_nil]; omega, by omega⟩ ⟨rfl, rfl, rfl, rfl, rfl, trivial⟩ (by dsimp only; omega)
        · have hcb39 := hc39
          try simp only [decide_eq_true_eq, decide_eq_false_iff_not] at hc39
          refine CW.seq ?_
          -- region 10
          refine CW.region ?_
          refine RW.op1 rfl (runs_eqI rfl rfl) ?_
          refine RW.op1 rfl (runs_assign rfl) ?_
          refine RW.done ?_
          refine AQ.next ?_
          refine CW.cond rfl (fun hc51 => ?_) (fun hc51 => ?_)
          · have hcb51 := hc51
            try simp only [decide_eq_true_eq, decide_eq_false_iff_not] at hc51
            -- region 11
            refine CW.region ?_
            refine RW.op1 rfl (runs_move rfl) ?_
            refine RW.op1 rfl (runs_move rfl) ?_
            refine RW.op1 rfl (runs_makeIface con9 rfl) ?_
            refine RW.opE rfl (runs_lit1R Try.underlying23 ti20 (by decide) rfl rfl rfl (by simp [Value.oneCell']) hst) ?_
            rintro u6 w ⟨I6, hI6, hstn, h6⟩
            clear hst
            have hst := hstn
            clear hstn
            replace hlk := hlk.mono hI6
            replace hle := hle.trans hI6
            refine RW.opE rfl (runs_appendR Try.underlying23 ti20 rfl (by decide) rfl rfl hst (by assumption) (by assumption) (by (try simp) <;> omega) (by (try simp) <;> (try unfold maxLen) <;> omega)) ?_
            rintro u7 w ⟨Lv7, hstn, hg7⟩
            clear hst
            have hst := hstn
            clear hstn
            refine RW.op1 rfl (runs_assign rfl) ?_
            refine RW.done ?_
            refine AQ.block_normal ?_
            refine AQ.block_normal ?_
            refine AQ.next ?_
            -- region 4
            refine CW.region ?_
            refine RW.op1 rfl (runs_move rfl) ?_
            refine RW.op1 rfl (runs_add rfl rfl (by omega)) ?_
            refine RW.op1 rfl (runs_assign rfl) ?_
            refine RW.done ?_
            skip
            exact AQ.again (x := (k, vo, av, Lo, I5)) (k + 2, _, av ++ [.txt s], _, _) ⟨hle, hst, GrowA.push (by assumption), good_push (a := .txt s) hgd (show s.size ≤ M by omega), by rw [List.length_append]; simp only [List.length_cons, List.length_nil]; omega, by omega⟩ ⟨rfl, rfl, rfl, rfl, rfl, trivial⟩ (by dsimp only; omega)
          · have hcb51 := hc51
            try simp only [decide_eq_true_eq, decide_eq_false_iff_not] at hc51
            refine CW.seq ?_
            -- region 12
            refine CW.region ?_
            refine RW.op1 rfl (runs_eqI rfl rfl) ?_
            refine RW.op1 rfl (runs_assign rfl) ?_
            refine RW.done ?_
            refine AQ.next ?_
            refine CW.cond rfl (fun hc58 => ?_) (fun hc58 => ?_)
            · have hcb58 := hc58
              try simp only [decide_eq_true_eq, decide_eq_false_iff_not] at hc58
              -- region 13
              refine CW.region ?_
              refine RW.op1 rfl (runs_move rfl) ?_
              refine RW.op1 rfl (runs_move rfl) ?_
              refine RW.op1 rfl (runs_move rfl) ?_
              refine RW.op1 rfl (runs_add rfl rfl (by omega)) ?_
              first
                | refine RW.op1 rfl (RdL.indexAddr Try.underlying22 ti3 (by decide) rfl rfl (by assumption) (by omega)) ?_
                | refine RW.op1 rfl (runs_indexAddr0 Try.underlying22 ti3 rfl rfl (by omega)) ?_
              have hok65 := iat_ok (i := (k : Int) + 1) hxs (by omega) (by omega)
              refine RW.op1 rfl (runs_load1 sc3 rfl (hst.cell_imm (RdI.at hlk (by omega) (by omega)))) ?_
              refine RW.call rfl call14 rfl rfl (within_spec hst (v := iat xs ((k : Int) + 1)) (n := 256) hok65 (by unfold i64ok; omega)) ?_
              rintro e w ⟨rfl, hstn⟩
              clear hst
              have hst := hstn
              clear hstn
              have hw66 := within_range (iat xs ((k : Int) + 1)) 256
              obtain ⟨m, hm⟩ : ∃ m : Nat, within (iat xs ((k : Int) + 1)) 256 = m := ⟨(within (iat xs ((k : Int) + 1)) 256).toNat, by omega⟩
              rw [hm] at hw66 ⊢
              refine ⟨_, rfl, ?_⟩
              refine RW.opE rfl (runs_makeSlice (n := m) Try.underlying26 ti5 rfl hst (by omega) (by unfold maxLen; omega)) ?_
              rintro _ w ⟨b67, rfl, hstn⟩
              clear hst
              have hst := hstn
              clear hstn
              rw [made_b8] at hst
              obtain ⟨I67, hI67, hstn, h67⟩ := RdB.of_block (n := m) (by simp) hst (by unfold maxLen; omega)
              clear hst
              have hst := hstn
              clear hstn
              replace hlk := hlk.mono hI67
              replace hle := hle.trans hI67
              refine RW.op1 rfl (RdB.string Try.underlying26 Try.underlying5 Try.underlying9 rfl (by assumption) hst) ?_
              refine RW.op1 rfl (runs_makeIface con9 rfl) ?_
              refine RW.opE rfl (runs_lit1R Try.underlying23 ti20 (by decide) rfl rfl rfl (by simp [Value.oneCell']) hst) ?_
              rintro u10 w ⟨I10, hI10, hstn, h10⟩
              clear hst
              have hst := hstn
              clear hstn
              replace hlk := hlk.mono hI10
              replace h67 := h67.mono hI10
              replace hle := hle.trans hI10
              refine RW.opE rfl (runs_appendR Try.underlying23 ti20 rfl (by decide) rfl rfl hst (by assumption) (by assumption) (by (try simp) <;> omega) (by (try simp) <;> (try unfold maxLen) <;> omega)) ?_
              rintro u11 w ⟨Lv11, hstn, hg11⟩
              clear hst
              have hst := hstn
              clear hstn
              refine RW.op1 rfl (runs_assign rfl) ?_
              refine RW.done ?_
              refine AQ.block_normal ?_
              refine AQ.block_normal ?_
              refine AQ.next ?_
              -- region 4
              refine CW.region ?_
              refine RW.op1 rfl (runs_move rfl) ?_
              refine RW.op1 rfl (runs_add rfl rfl (by omega)) ?_
              refine RW.op1 rfl (runs_assign rfl) ?_
              refine RW.done ?_
              skip
              exact AQ.again (x := (k, vo, av, Lo, I5)) (k + 2, _, av ++ [.txt (strOf (List.replicate m 0))], _, _) ⟨hle, hst, GrowA.push (by assumption), good_push (a := .txt (strOf (List.replicate m 0))) hgd (show (strOf (List.replicate m 0)).size ≤ M by rw [strOf_size, List.length_replicate]; omega), by rw [List.length_append]; simp only [List.length_cons, List.length_nil]; omega, by omega⟩ ⟨rfl, rfl, rfl, rfl, rfl, trivial⟩ (by dsimp only; omega)
            · have hcb58 := hc58
              try simp only [decide_eq_true_eq, decide_eq_false_iff_not] at hc58
              refine CW.seq ?_
              refine CW.seq ?_
              -- region 14
              refine CW.region ?_
              refine RW.op1 rfl (runs_eqI rfl rfl) ?_
              refine RW.op1 rfl (runs_assign rfl) ?_
              refine RW.done ?_
              refine AQ.next ?_
              refine CW.cond rfl (fun hc72 => ?_) (fun hc72 => ?_)
              · have hcb72 := hc72
                try simp only [decide_eq_true_eq, decide_eq_false_iff_not] at hc72
                refine CW.skip ?_
                refine AQ.next ?_
                refine CW.cond rfl (fun _ => ?_) (fun hc => absurd (hcb72.symm.trans hc) (by decide))
                -- region 16
                refine CW.region ?_
                refine RW.op1 rfl (runs_move rfl) ?_
                refine RW.op1 rfl (runs_move rfl) ?_
                refine RW.op1 rfl (runs_move rfl) ?_
                refine RW.op1 rfl (runs_add rfl rfl (by omega)) ?_
                first
                  | refine RW.op1 rfl (RdL.indexAddr Try.underlying22 ti3 (by decide) rfl rfl (by assumption) (by omega)) ?_
                  | refine RW.op1 rfl (runs_indexAddr0 Try.underlying22 ti3 rfl rfl (by omega)) ?_
                have hok80 := iat_ok (i := (k : Int) + 1) hxs (by omega) (by omega)
                refine RW.op1 rfl (runs_load1 sc3 rfl (hst.cell_imm (RdI.at hlk (by omega) (by omega)))) ?_
                refine RW.op1 rfl (runs_rem rfl rfl (by decide)) ?_
                refine RW.op1 rfl (runs_eqI rfl rfl) ?_
                refine RW.op1 rfl (runs_makeIface con4 rfl) ?_
                refine RW.opE rfl (runs_lit1R Try.underlying23 ti20 (by decide) rfl rfl rfl (by simp [Value.oneCell']) hst) ?_
                rintro u12 w ⟨I12, hI12, hstn, h12⟩
                clear hst
                have hst := hstn
                clear hstn
                replace hlk := hlk.mono hI12
                replace hle := hle.trans hI12
                refine RW.opE rfl (runs_appendR Try.underlying23 ti20 rfl (by decide) rfl rfl hst (by assumption) (by assumption) (by (try simp) <;> omega) (by (try simp) <;> (try unfold maxLen) <;> omega)) ?_
                rintro u13 w ⟨Lv13, hstn, hg13⟩
                clear hst
                have hst := hstn
                clear hstn
                refine RW.op1 rfl (runs_assign rfl) ?_
                refine RW.done ?_
                refine AQ.block_normal ?_
                refine AQ.block_normal ?_
                refine AQ.next ?_
                -- region 4
                refine CW.region ?_
                refine RW.op1 rfl (runs_move rfl) ?_
                refine RW.op1 rfl (runs_add rfl rfl (by omega)) ?_
                refine RW.op1 rfl (runs_assign rfl) ?_
                refine RW.done ?_
                skip
                exact AQ.again (x := (k, vo, av, Lo, I5)) (k + 2, _, av ++ [.flg _], _, _) ⟨hle, hst, GrowA.push (by assumption), good_push (a := .flg _) hgd trivial, by rw [List.length_append]; simp only [List.length_cons, List.length_nil]; omega, by omega⟩ ⟨rfl, rfl, rfl, rfl, rfl, trivial⟩ (by dsimp only; omega)
              · have hcb72 := hc72
                try simp only [decide_eq_true_eq, decide_eq_false_iff_not] at hc72
                -- region 15
                refine CW.region ?_
                refine RW.op1 rfl (runs_eqI rfl rfl) ?_
                refine RW.op1 rfl (runs_assign rfl) ?_
                refine RW.done ?_
                refine AQ.next ?_
                refine CW.cond rfl (fun hc72 => ?_) (fun hc72 => ?_)
                · have hcb72 := hc72
                  try simp only [decide_eq_true_eq, decide_eq_false_iff_not] at hc72
                  -- region 16
                  refine CW.region ?_
                  refine RW.op1 rfl (runs_move rfl) ?_
                  refine RW.op1 rfl (runs_move rfl) ?_
                  refine RW.op1 rfl (runs_move rfl) ?_
                  refine RW.op1 rfl (runs_add rfl rfl (by omega)) ?_
                  first
                    | refine RW.op1 rfl (RdL.indexAddr Try.underlying22 ti3 (by decide) rfl rfl (by assumption) (by omega)) ?_
                    | refine RW.op1 rfl (runs_indexAddr0 Try.underlying22 ti3 rfl rfl (by omega)) ?_
                  have hok80 := iat_ok (i := (k : Int) + 1) hxs (by omega) (by omega)
                  refine RW.op1 rfl (runs_load1 sc3 rfl (hst.cell_imm (RdI.at hlk (by omega) (by omega)))) ?_
                  refine RW.op1 rfl (runs_rem rfl rfl (by decide)) ?_
                  refine RW.op1 rfl (runs_eqI rfl rfl) ?_
                  refine RW.op1 rfl (runs_makeIface con4 rfl) ?_
                  refine RW.opE rfl (runs_lit1R Try.underlying23 ti20 (by decide) rfl rfl rfl (by simp [Value.oneCell']) hst) ?_
                  rintro u14 w ⟨I14, hI14, hstn, h14⟩
                  clear hst
                  have hst := hstn
                  clear hstn
                  replace hlk := hlk.mono hI14
                  replace hle := hle.trans hI14
                  refine RW.opE rfl (runs_appendR Try.underlying23 ti20 rfl (by decide) rfl rfl hst (by assumption) (by assumption) (by (try simp) <;> omega) (by (try simp) <;> (try unfold maxLen) <;> omega)) ?_
                  rintro u15 w ⟨Lv15, hstn, hg15⟩
                  clear hst
                  have hst := hstn
                  clear hstn
                  refine RW.op1 rfl (runs_assign rfl) ?_
                  refine RW.done ?_
                  refine AQ.block_normal ?_
                  refine AQ.block_normal ?_
                  refine AQ.next ?_
                  -- region 4
                  refine CW.region ?_
                  refine RW.op1 rfl (runs_move rfl) ?_
                  refine RW.op1 rfl (runs_add rfl rfl (by omega)) ?_
                  refine RW.op1 rfl (runs_assign rfl) ?_
                  refine RW.done ?_
                  skip
                  exact AQ.again (x := (k, vo, av, Lo, I5)) (k + 2, _, av ++ [.flg _], _, _) ⟨hle, hst, GrowA.push (by assumption), good_push (a := .flg _) hgd trivial, by rw [List.length_append]; simp only [List.length_cons, List.length_nil]; omega, by omega⟩ ⟨rfl, rfl, rfl, rfl, rfl, trivial⟩ (by dsimp only; omega)
                · have hcb72 := hc72
                  try simp only [decide_eq_true_eq, decide_eq_false_iff_not] at hc72
                  -- region 6
                  refine CW.region ?_
                  refine RW.op1 rfl (runs_move rfl) ?_
                  refine RW.op1 rfl (runs_move rfl) ?_
                  refine RW.op1 rfl (runs_move rfl) ?_
                  refine RW.op1 rfl (runs_add rfl rfl (by omega)) ?_
                  first
                    | refine RW.op1 rfl (RdL.indexAddr Try.underlying22 ti3 (by decide) rfl rfl (by assumption) (by omega)) ?_
                    | refine RW.op1 rfl (runs_indexAddr0 Try.underlying22 ti3 rfl rfl (by omega)) ?_
                  have hok30 := iat_ok (i := (k : Int) + 1) hxs (by omega) (by omega)
                  refine RW.op1 rfl (runs_load1 sc3 rfl (hst.cell_imm (RdI.at hlk (by omega) (by omega)))) ?_
                  refine RW.op1 rfl (runs_convB (by rw [Try.underlying3]; rfl) Try.underlying5 rfl) ?_
                  refine RW.opE rfl (runs_litB (bs := [_]) rfl Try.underlying26 ti5 (by decide) rfl rfl rfl hst) ?_
                  rintro u16 w ⟨I16, hI16, hstn, h16⟩
                  clear hst
                  have hst := hstn
                  clear hstn
                  replace hlk := hlk.mono hI16
                  replace hle := hle.trans hI16
                  refine RW.op1 rfl (RdB.string Try.underlying26 Try.underlying5 Try.underlying9 rfl (by assumption) hst) ?_
                  refine RW.op1 rfl (runs_move rfl) ?_
                  refine RW.op1 rfl (runs_addS rfl rfl (by rw [strOf_size]; simp only [List.length_cons, List.length_nil]; omega)) ?_
                  refine RW.op1 rfl (runs_makeIface con9 rfl) ?_
                  refine RW.opE rfl (runs_lit1R Try.underlying23 ti20 (by decide) rfl rfl rfl (by simp [Value.oneCell']) hst) ?_
                  rintro u17 w ⟨I17, hI17, hstn, h17⟩
                  clear hst
                  have hst := hstn
                  clear hstn
                  replace hlk := hlk.mono hI17
                  replace h16 := h16.mono hI17
                  replace hle := hle.trans hI17
                  refine RW.opE rfl (runs_appendR Try.underlying23 ti20 rfl (by decide) rfl rfl hst (by assumption) (by assumption) (by (try simp) <;> omega) (by (try simp) <;> (try unfold maxLen) <;> omega)) ?_
                  rintro u18 w ⟨Lv18, hstn, hg18⟩
                  clear hst
                  have hst := hstn
                  clear hstn
                  refine RW.op1 rfl (runs_assign rfl) ?_
                  refine RW.done ?_
                  refine AQ.block_normal ?_
                  refine AQ.block_normal ?_
                  refine AQ.next ?_
                  -- region 4
                  refine CW.region ?_
                  refine RW.op1 rfl (runs_move rfl) ?_
                  refine RW.op1 rfl (runs_add rfl rfl (by omega)) ?_
                  refine RW.op1 rfl (runs_assign rfl) ?_
                  refine RW.done ?_
                  skip
                  exact AQ.again (x := (k, vo, av, Lo, I5)) (k + 2, _, av ++ [.txt (strOf [u8 (iat xs ((k : Int) + 1))] ++ s)], _, _) ⟨hle, hst, GrowA.push (by assumption), good_push (a := .txt (strOf [u8 (iat xs ((k : Int) + 1))] ++ s)) hgd (show (strOf [u8 (iat xs ((k : Int) + 1))] ++ s).size ≤ M by rw [ByteArray.size_append, strOf_size]; simp only [List.length_cons, List.length_nil]; omega), by rw [List.length_append]; simp only [List.length_cons, List.length_nil]; omega, by omega⟩ ⟨rfl, rfl, rfl, rfl, rfl, trivial⟩ (by dsimp only; omega)
    · have hcb17 := hc17
      try simp only [decide_eq_true_eq, decide_eq_false_iff_not] at hc17
      skip
      refine CW.exit ?_
      refine AQ.past_exit ?_
      refine AQ.past_exit ?_
      refine AQ.block_hit ?_
      refine AQ.next ?_
      refine CW.seq ?_
      refine CW.seq ?_
      -- region 17
      refine CW.region ?_
      refine RW.op1 rfl (runs_move rfl) ?_
      refine RW.call rfl call14 rfl rfl (within_spec hst (v := bad) (n := 30) (by unfold i64ok; omega) (by unfold i64ok; omega)) ?_
      rintro e w ⟨rfl, hstn⟩
      clear hst
      have hst := hstn
      clear hstn
      have hw87 := within_range (bad) (30)
      generalize hx87 : within (bad) (30) = x87 at *
      refine ⟨_, rfl, ?_⟩
      refine RW.done ?_
      refine AQ.next ?_
      refine CW.block ?_
      refine CW.seq ?_
      -- region 18
      refine CW.region ?_
      refine RW.op1 rfl (runs_eqI rfl rfl) ?_
      refine RW.op1 rfl (runs_assign rfl) ?_
      refine RW.done ?_
      refine AQ.next ?_
      refine CW.cond rfl (fun hc88 => ?_) (fun hc88 => ?_)
      · have hcb88 := hc88
        try simp only [decide_eq_true_eq, decide_eq_false_iff_not] at hc88
        -- region 19
        refine CW.region ?_
        refine RW.op1 rfl (runs_move rfl) ?_
        refine RW.op1 rfl (runs_move rfl) ?_
        refine RW.op1 rfl (runs_convB (by rw [Try.underlying3]; rfl) Try.underlying5 rfl) ?_
        refine RW.op1 rfl (runs_makeIface con5 rfl) ?_
        refine RW.opE rfl (runs_lit1R Try.underlying23 ti20 (by decide) rfl rfl rfl (by simp [Value.oneCell']) hst) ?_
        rintro u20 w ⟨I20, hI20, hstn, h20⟩
        clear hst
        have hst := hstn
        clear hstn
        replace hlk := hlk.mono hI20
        replace hle := hle.trans hI20
        refine RW.opE rfl (runs_appendR Try.underlying23 ti20 rfl (by decide) rfl rfl hst (by assumption) (by assumption) (by (try simp) <;> omega) (by (try simp) <;> (try unfold maxLen) <;> omega)) ?_
        rintro u21 w ⟨Lv21, hstn, hg21⟩
        clear hst
        have hst := hstn
        clear hstn
        refine RW.op1 rfl (runs_assign rfl) ?_
        refine RW.done ?_
        refine AQ.block_normal ?_
        refine AQ.next ?_
        refine CW.seq ?_
        -- region 24
        refine CW.region ?_
        refine RW.op1 rfl (runs_move rfl) ?_
        refine RW.op1 rfl (runs_assign rfl) ?_
        refine RW.done ?_
        refine AQ.next ?_
        refine CW.ret ?_
        refine AQ.ret1 rfl rfl ?_
        have hoo : o = true := by
          cases ho2 : o
          · have := ho ho2; omega
          · rfl
        obtain ⟨I', hI, hst, hr⟩ := Grow.freeze (GrowA.push (a := .oth _) (by assumption)) hst
        exact ⟨I', _, _, hle.trans hI, rfl, hst, hr, good_push (a := .oth _) hgd ⟨hoo, rfl⟩, by rw [List.length_append]; simp only [List.length_cons, List.length_nil]; omega⟩
      · have hcb88 := hc88
        try simp only [decide_eq_true_eq, decide_eq_false_iff_not] at hc88
        refine CW.seq ?_
        -- region 20
        refine CW.region ?_
        refine RW.op1 rfl (runs_eqI rfl rfl) ?_
        refine RW.op1 rfl (runs_assign rfl) ?_
        refine RW.done ?_
        refine AQ.next ?_
        refine CW.cond rfl (fun hc96 => ?_) (fun hc96 => ?_)
        · have hcb96 := hc96
          try simp only [decide_eq_true_eq, decide_eq_false_iff_not] at hc96
          -- region 21
          refine CW.region ?_
          refine RW.op1 rfl (runs_move rfl) ?_
          refine RW.opE rfl (runs_lit1R Try.underlying23 ti20 (by decide) rfl rfl rfl (by simp [Value.oneCell']) hst) ?_
          rintro u22 w ⟨I22, hI22, hstn, h22⟩
          clear hst
          have hst := hstn
          clear hstn
          replace hlk := hlk.mono hI22
          replace hle := hle.trans hI22
          refine RW.opE rfl (runs_appendR Try.underlying23 ti20 rfl (by decide) rfl rfl hst (by assumption) (by assumption) (by (try simp) <;> omega) (by (try simp) <;> (try unfold maxLen) <;> omega)) ?_
          rintro u23 w ⟨Lv23, hstn, hg23⟩
          clear hst
          have hst := hstn
          clear hstn
          refine RW.op1 rfl (runs_assign rfl) ?_
          refine RW.done ?_
          refine AQ.block_normal ?_
          refine AQ.next ?_
          refine CW.seq ?_
          -- region 24
          refine CW.region ?_
          refine RW.op1 rfl (runs_move rfl) ?_
          refine RW.op1 rfl (runs_assign rfl) ?_
          refine RW.done ?_
          refine AQ.next ?_
          refine CW.ret ?_
          refine AQ.ret1 rfl rfl ?_
          have hoo : o = true := by
            cases ho2 : o
            · have := ho ho2; omega
            · rfl
          obtain ⟨I', hI, hst, hr⟩ := Grow.freeze (GrowA.push (a := .oth _) (by assumption)) hst
          exact ⟨I', _, _, hle.trans hI, rfl, hst, hr, good_push (a := .oth _) hgd ⟨hoo, rfl⟩, by rw [List.length_append]; simp only [List.length_cons, List.length_nil]; omega⟩
        · have hcb96 := hc96
          try simp only [decide_eq_true_eq, decide_eq_false_iff_not] at hc96
          refine CW.seq ?_
          -- region 22
          refine CW.region ?_
          refine RW.op1 rfl (runs_eqI rfl rfl) ?_
          refine RW.op1 rfl (runs_assign rfl) ?_
          refine RW.done ?_
          refine AQ.next ?_
          refine CW.cond rfl (fun hc101 => ?_) (fun hc101 => ?_)
          · have hcb101 := hc101
            try simp only [decide_eq_true_eq, decide_eq_false_iff_not] at hc101
            -- region 23
            refine CW.region ?_
            refine RW.op1 rfl (runs_move rfl) ?_
            refine RW.opE rfl (runs_litB (bs := [1]) rfl Try.underlying26 ti5 (by decide) rfl rfl rfl hst) ?_
            rintro u24 w ⟨I24, hI24, hstn, h24⟩
            clear hst
            have hst := hstn
            clear hstn
            replace hlk := hlk.mono hI24
            replace hle := hle.trans hI24
            refine RW.op1 rfl (runs_makeIface con26 rfl) ?_
            refine RW.opE rfl (runs_lit1R Try.underlying23 ti20 (by decide) rfl rfl rfl (by simp [Value.oneCell']) hst) ?_
            rintro u25 w ⟨I25, hI25, hstn, h25⟩
            clear hst
            have hst := hstn
            clear hstn
            replace hlk := hlk.mono hI25
            replace h24 := h24.mono hI25
            replace hle := hle.trans hI25
            refine RW.opE rfl (runs_appendR Try.underlying23 ti20 rfl (by decide) rfl rfl hst (by assumption) (by assumption) (by (try simp) <;> omega) (by (try simp) <;> (try unfold maxLen) <;> omega)) ?_
            rintro u26 w ⟨Lv26, hstn, hg26⟩
            clear hst
            have hst := hstn
            clear hstn
            refine RW.op1 rfl (runs_assign rfl) ?_
            refine RW.done ?_
            refine AQ.block_normal ?_
            refine AQ.next ?_
            refine CW.seq ?_
            -- region 24
            refine CW.region ?_
            refine RW.op1 rfl (runs_move rfl) ?_
            refine RW.op1 rfl (runs_assign rfl) ?_
            refine RW.done ?_
            refine AQ.next ?_
            refine CW.ret ?_
            refine AQ.ret1 rfl rfl ?_
            have hoo : o = true := by
              cases ho2 : o
              · have := ho ho2; omega
              · rfl
            obtain ⟨I', hI, hst, hr⟩ := Grow.freeze (GrowA.push (a := .oth _) (by assumption)) hst
            exact ⟨I', _, _, hle.trans hI, rfl, hst, hr, good_push (a := .oth _) hgd ⟨hoo, rfl⟩, by rw [List.length_append]; simp only [List.length_cons, List.length_nil]; omega⟩
          · have hcb101 := hc101
            try simp only [decide_eq_true_eq, decide_eq_false_iff_not] at hc101
            refine CW.skip ?_
            refine AQ.block_normal ?_
            refine AQ.next ?_
            refine CW.seq ?_
            -- region 24
            refine CW.region ?_
            refine RW.op1 rfl (runs_move rfl) ?_
            refine RW.op1 rfl (runs_assign rfl) ?_
            refine RW.done ?_
            refine AQ.next ?_
            refine CW.ret ?_
            refine AQ.ret1 rfl rfl ?_
            obtain ⟨I', hI, hst, hr⟩ := Grow.freeze hg hst
            exact ⟨I', _, av, hle.trans hI, rfl, hst, hr, hgd, by omega⟩
  · have hb14p := hb14
    try simp only [decide_eq_true_eq, decide_eq_false_iff_not] at hb14p
    refine RW.off_guard rfl rfl rfl rfl hb14 ?_
    refine RW.off_guard rfl rfl rfl rfl hb14 ?_
    refine RW.op1 rfl (runs_pick_false rfl hb14 rfl) ?_
    refine RW.done ?_
    refine AQ.next ?_
    skip
    refine CW.cond_false rfl ?_
    refine CW.exit ?_
    refine AQ.past_exit ?_
    refine AQ.past_exit ?_
    refine AQ.block_hit ?_
    refine AQ.next ?_
    refine CW.seq ?_
    refine CW.seq ?_
    -- region 17
    refine CW.region ?_
    refine RW.op1 rfl (runs_move rfl) ?_
    refine RW.call rfl call14 rfl rfl (within_spec hst (v := bad) (n := 30) (by unfold i64ok; omega) (by unfold i64ok; omega)) ?_
    rintro e w ⟨rfl, hstn⟩
    clear hst
    have hst := hstn
    clear hstn
    have hw87 := within_range (bad) (30)
    generalize hx87 : within (bad) (30) = x87 at *
    refine ⟨_, rfl, ?_⟩
    refine RW.done ?_
    refine AQ.next ?_
    refine CW.block ?_
    refine CW.seq ?_
    -- region 18
    refine CW.region ?_
    refine RW.op1 rfl (runs_eqI rfl rfl) ?_
    refine RW.op1 rfl (runs_assign rfl) ?_
    refine RW.done ?_
    refine AQ.next ?_
    refine CW.cond rfl (fun hc88 => ?_) (fun hc88 => ?_)
    · have hcb88 := hc88
      try simp only [decide_eq_true_eq, decide_eq_false_iff_not] at hc88
      -- region 19
      refine CW.region ?_
      refine RW.op1 rfl (runs_move rfl) ?_
      refine RW.op1 rfl (runs_move rfl) ?_
      refine RW.op1 rfl (runs_convB (by rw [Try.underlying3]; rfl) Try.underlying5 rfl) ?_
      refine RW.op1 rfl (runs_makeIface con5 rfl) ?_
      refine RW.opE rfl (runs_lit1R Try.underlying23 ti20 (by decide) rfl rfl rfl (by simp [Value.oneCell']) hst) ?_
      rintro u28 w ⟨I28, hI28, hstn, h28⟩
      clear hst
      have hst := hstn
      clear hstn
      replace hlk := hlk.mono hI28
      replace hle := hle.trans hI28
      refine RW.opE rfl (runs_appendR Try.underlying23 ti20 rfl (by decide) rfl rfl hst (by assumption) (by assumption) (by (try simp) <;> omega) (by (try simp) <;> (try unfold maxLen) <;> omega)) ?_
      rintro u29 w ⟨Lv29, hstn, hg29⟩
      clear hst
      have hst := hstn
      clear hstn
      refine RW.op1 rfl (runs_assign rfl) ?_
      refine RW.done ?_
      refine AQ.block_normal ?_
      refine AQ.next ?_
      refine CW.seq ?_
      -- region 24
      refine CW.region ?_
      refine RW.op1 rfl (runs_move rfl) ?_
      refine RW.op1 rfl (runs_assign rfl) ?_
      refine RW.done ?_
      refine AQ.next ?_
      refine CW.ret ?_
      refine AQ.ret1 rfl rfl ?_
      have hoo : o = true := by
        cases ho2 : o
        · have := ho ho2; omega
        · rfl
      obtain ⟨I', hI, hst, hr⟩ := Grow.freeze (GrowA.push (a := .oth _) (by assumption)) hst
      exact ⟨I', _, _, hle.trans hI, rfl, hst, hr, good_push (a := .oth _) hgd ⟨hoo, rfl⟩, by rw [List.length_append]; simp only [List.length_cons, List.length_nil]; omega⟩
    · have hcb88 := hc88
      try simp only [decide_eq_true_eq, decide_eq_false_iff_not] at hc88
      refine CW.seq ?_
      -- region 20
      refine CW.region ?_
      refine RW.op1 rfl (runs_eqI rfl rfl) ?_
      refine RW.op1 rfl (runs_assign rfl) ?_
      refine RW.done ?_
      refine AQ.next ?_
      refine CW.cond rfl (fun hc96 => ?_) (fun hc96 => ?_)
      · have hcb96 := hc96
        try simp only [decide_eq_true_eq, decide_eq_false_iff_not] at hc96
        -- region 21
        refine CW.region ?_
        refine RW.op1 rfl (runs_move rfl) ?_
        refine RW.opE rfl (runs_lit1R Try.underlying23 ti20 (by decide) rfl rfl rfl (by simp [Value.oneCell']) hst) ?_
        rintro u30 w ⟨I30, hI30, hstn, h30⟩
        clear hst
        have hst := hstn
        clear hstn
        replace hlk := hlk.mono hI30
        replace hle := hle.trans hI30
        refine RW.opE rfl (runs_appendR Try.underlying23 ti20 rfl (by decide) rfl rfl hst (by assumption) (by assumption) (by (try simp) <;> omega) (by (try simp) <;> (try unfold maxLen) <;> omega)) ?_
        rintro u31 w ⟨Lv31, hstn, hg31⟩
        clear hst
        have hst := hstn
        clear hstn
        refine RW.op1 rfl (runs_assign rfl) ?_
        refine RW.done ?_
        refine AQ.block_normal ?_
        refine AQ.next ?_
        refine CW.seq ?_
        -- region 24
        refine CW.region ?_
        refine RW.op1 rfl (runs_move rfl) ?_
        refine RW.op1 rfl (runs_assign rfl) ?_
        refine RW.done ?_
        refine AQ.next ?_
        refine CW.ret ?_
        refine AQ.ret1 rfl rfl ?_
        have hoo : o = true := by
          cases ho2 : o
          · have := ho ho2; omega
          · rfl
        obtain ⟨I', hI, hst, hr⟩ := Grow.freeze (GrowA.push (a := .oth _) (by assumption)) hst
        exact ⟨I', _, _, hle.trans hI, rfl, hst, hr, good_push (a := .oth _) hgd ⟨hoo, rfl⟩, by rw [List.length_append]; simp only [List.length_cons, List.length_nil]; omega⟩
      · have hcb96 := hc96
        try simp only [decide_eq_true_eq, decide_eq_false_iff_not] at hc96
        refine CW.seq ?_
        -- region 22
        refine CW.region ?_
        refine RW.op1 rfl (runs_eqI rfl rfl) ?_
        refine RW.op1 rfl (runs_assign rfl) ?_
        refine RW.done ?_
        refine AQ.next ?_
        refine CW.cond rfl (fun hc101 => ?_) (fun hc101 => ?_)
        · have hcb101 := hc101
          try simp only [decide_eq_true_eq, decide_eq_false_iff_not] at hc101
          -- region 23
          refine CW.region ?_
          refine RW.op1 rfl (runs_move rfl) ?_
          refine RW.opE rfl (runs_litB (bs := [1]) rfl Try.underlying26 ti5 (by decide) rfl rfl rfl hst) ?_
          rintro u32 w ⟨I32, hI32, hstn, h32⟩
          clear hst
          have hst := hstn
          clear hstn
          replace hlk := hlk.mono hI32
          replace hle := hle.trans hI32
          refine RW.op1 rfl (runs_makeIface con26 rfl) ?_
          refine RW.opE rfl (runs_lit1R Try.underlying23 ti20 (by decide) rfl rfl rfl (by simp [Value.oneCell']) hst) ?_
          rintro u33 w ⟨I33, hI33, hstn, h33⟩
          clear hst
          have hst := hstn
          clear hstn
          replace hlk := hlk.mono hI33
          replace h32 := h32.mono hI33
          replace hle := hle.trans hI33
          refine RW.opE rfl (runs_appendR Try.underlying23 ti20 rfl (by decide) rfl rfl hst (by assumption) (by assumption) (by (try simp) <;> omega) (by (try simp) <;> (try unfold maxLen) <;> omega)) ?_
          rintro u34 w ⟨Lv34, hstn, hg34⟩
          clear hst
          have hst := hstn
          clear hstn
          refine RW.op1 rfl (runs_assign rfl) ?_
          refine RW.done ?_
          refine AQ.block_normal ?_
          refine AQ.next ?_
          refine CW.seq ?_
          -- region 24
          refine CW.region ?_
          refine RW.op1 rfl (runs_move rfl) ?_
          refine RW.op1 rfl (runs_assign rfl) ?_
          refine RW.done ?_
          refine AQ.next ?_
          refine CW.ret ?_
          refine AQ.ret1 rfl rfl ?_
          have hoo : o = true := by
            cases ho2 : o
            · have := ho ho2; omega
            · rfl
          obtain ⟨I', hI, hst, hr⟩ := Grow.freeze (GrowA.push (a := .oth _) (by assumption)) hst
          exact ⟨I', _, _, hle.trans hI, rfl, hst, hr, good_push (a := .oth _) hgd ⟨hoo, rfl⟩, by rw [List.length_append]; simp only [List.length_cons, List.length_nil]; omega⟩
        · have hcb101 := hc101
          try simp only [decide_eq_true_eq, decide_eq_false_iff_not] at hc101
          refine CW.skip ?_
          refine AQ.block_normal ?_
          refine AQ.next ?_
          refine CW.seq ?_
          -- region 24
          refine CW.region ?_
          refine RW.op1 rfl (runs_move rfl) ?_
          refine RW.op1 rfl (runs_assign rfl) ?_
          refine RW.done ?_
          refine AQ.next ?_
          refine CW.ret ?_
          refine AQ.ret1 rfl rfl ?_
          obtain ⟨I', hI, hst, hr⟩ := Grow.freeze hg hst
          exact ⟨I', _, av, hle.trans hI, rfl, hst, hr, hgd, by omega⟩
end Go.Proofs.YtoegloebnnjflaaX
