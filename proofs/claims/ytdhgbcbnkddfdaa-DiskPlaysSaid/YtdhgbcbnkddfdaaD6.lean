/- The document's example of the disk; what may not be asked for: the walks. -/
import Derived.Test.YtdhgbcbnkddfdaaT
import Derived.Test.YtdhgbcbnkddfdaaD5
import Derived.Test.YtdhgbcbnkddfdaaP1
namespace Go.Proofs.YtdhgbcbnkddfdaaX
set_option linter.unusedVariables false
set_option linter.unusedSimpArgs false
open Go Go.RowKit Go.Proofs

set_option maxRecDepth 100000 in
set_option maxHeartbeats 1000000 in
theorem wakes01_spec {w0 w : World} {I : Imm} {L : Own} (hst : St w0 w I L) :
    Calls Try.prog 15 #[] w fun e w' => ∃ I', Imm.le I I' ∧ e = .returned (.bool true) ∧ St w0 w' I' L := by
  refine enter Try.func15 rfl (N := 34) rfl rfl ?_
  simp only [List.zipIdx_cons, List.zipIdx_nil, List.map_cons, List.map_nil, Nat.zero_add, Nat.reduceAdd]
  have hle := Imm.le.refl I
  refine CW.seq ?_
  -- region 0
  refine CW.region ?_
  refine RW.op1 rfl (runs_assign rfl) ?_
  refine RW.done ?_
  refine AQ.next ?_
  refine CW.seq ?_
  -- region 1
  refine CW.region ?_
  refine RW.call rfl call9 rfl rfl (new_spec hst 1) ?_
  rintro e w ⟨_, Ld1, rfl, _, hstn, hd1, a1, rfl⟩
  clear hst
  have hst := hstn
  clear hstn
  refine ⟨_, rfl, ?_⟩
  refine RW.op1 rfl (runs_assign rfl) ?_
  refine RW.done ?_
  refine AQ.next ?_
  refine CW.seq ?_
  refine CW.seq ?_
  -- region 2
  refine CW.region ?_
  refine RW.op1 rfl (runs_move rfl) ?_
  refine RW.op1 rfl (runs_eq_nilptr Try.underlying23 rfl) ?_
  refine RW.op1 rfl (runs_move rfl) ?_
  have hk7 := (show (Option.isNone (some a1)) = false from rfl)
  refine RW.on_guard rfl rfl rfl rfl hk7 ?_
  refine RW.op1 rfl (runs_move rfl) ?_
  refine RW.on_guard rfl rfl rfl rfl hk7 ?_
  refine RW.call rfl call10 rfl rfl (len_spec hd1 hst) ?_
  rintro e w ⟨rfl, hstn⟩
  clear hst
  have hst := hstn
  clear hstn
  refine ⟨_, rfl, ?_⟩
  refine RW.on_guard rfl rfl rfl rfl hk7 ?_
  refine RW.op1 rfl (runs_neI rfl rfl) ?_
  refine RW.op1 rfl (runs_pick_false rfl hk7 rfl) ?_
  refine RW.done ?_
  refine AQ.next ?_
  refine CW.cond rfl (fun hc => absurd hc (by decide)) (fun hc => ?_)
  refine CW.skip ?_
  refine AQ.next ?_
  refine CW.seq ?_
  -- region 4
  refine CW.region ?_
  refine RW.op1 rfl (runs_move rfl) ?_
  refine RW.call rfl call11 rfl rfl (read_spec hd1 hst 0) ?_
  rintro e w ⟨I3, v3, hI3, rfl, hstn, hr3⟩
  clear hst
  have hst := hstn
  clear hstn
  have hr : RdB I3 v3 (List.replicate 32 0) := hr3
  replace hle := hle.trans hI3
  refine ⟨_, rfl, ?_⟩
  refine RW.op1 rfl (runs_move rfl) ?_
  refine RW.op1 rfl (runs_extract rfl rfl) ?_
  refine RW.op1 rfl (runs_extract rfl rfl) ?_
  refine RW.op1 rfl (runs_assign rfl) ?_
  refine RW.op1 rfl (runs_assign rfl) ?_
  refine RW.done ?_
  refine AQ.next ?_
  refine CW.seq ?_
  -- region 5
  refine CW.region ?_
  refine RW.op1 rfl (runs_move rfl) ?_
  refine RW.op1 rfl (runs_eqI rfl rfl) ?_
  refine RW.op1 rfl (runs_move rfl) ?_
  have hk19 := (show decide (mayR (newR 1) 0 = 0) = true by decide)
  refine RW.on_guard rfl rfl rfl rfl hk19 ?_
  refine RW.op1 rfl (runs_move rfl) ?_
  refine RW.on_guard rfl rfl rfl rfl hk19 ?_
  refine RW.opE rfl (runs_makeSlice (n := 32) Try.underlying26 ti5 rfl hst (by omega) (by unfold maxLen; omega)) ?_
  rintro _ w ⟨bz, rfl, hstn⟩
  clear hst
  have hst := hstn
  clear hstn
  rw [made_b8] at hst
  obtain ⟨Iz, hIz, hstn, hz⟩ := RdB.of_block (n := 32) (by simp) hst (by unfold maxLen; omega)
  clear hst
  have hst := hstn
  clear hstn
  replace hle := hle.trans hIz
  replace hr := RdL.mono hIz hr
  refine RW.on_guard rfl rfl rfl rfl hk19 ?_
  refine RW.call rfl call18 rfl rfl (same_spec hst hr hz (by simp)) ?_
  rintro e w ⟨rfl, hstn⟩
  clear hst
  have hst := hstn
  clear hstn
  refine ⟨_, rfl, ?_⟩
  refine RW.op1 rfl (runs_pick_true rfl hk19 rfl) ?_
  refine RW.op1 rfl (runs_move rfl) ?_
  have hk24 := (show decide (List.replicate 32 (0 : UInt8) = List.replicate 32 0) = true by simp)
  refine RW.on_guard rfl rfl rfl rfl hk24 ?_
  refine RW.op1 rfl (runs_move rfl) ?_
  refine RW.on_guard rfl rfl rfl rfl hk24 ?_
  refine RW.call rfl call14 rfl rfl (down_spec hd1 hst) ?_
  rintro e w ⟨rfl, hstn⟩
  clear hst
  have hst := hstn
  clear hstn
  refine ⟨_, rfl, ?_⟩
  refine RW.on_guard rfl rfl rfl rfl hk24 ?_
  refine RW.op1 rfl (runs_not rfl) ?_
  refine RW.op1 rfl (runs_pick_true rfl hk24 rfl) ?_
  refine RW.op1 rfl (runs_move rfl) ?_
  have hk29 := (show (!(newR 1).down) = true from rfl)
  refine RW.on_guard rfl rfl rfl rfl hk29 ?_
  refine RW.op1 rfl (runs_move rfl) ?_
  refine RW.on_guard rfl rfl rfl rfl hk29 ?_
  refine RW.call rfl call20 rfl rfl (pending_spec hd1 hst) ?_
  rintro e w ⟨rfl, hstn⟩
  clear hst
  have hst := hstn
  clear hstn
  refine ⟨_, rfl, ?_⟩
  refine RW.on_guard rfl rfl rfl rfl hk29 ?_
  refine RW.op1 rfl (runs_eqI rfl rfl) ?_
  refine RW.op1 rfl (runs_pick_true rfl hk29 rfl) ?_
  refine RW.op1 rfl (runs_assign rfl) ?_
  refine RW.done ?_
  refine AQ.next ?_
  refine CW.ret ?_
  refine AQ.ret1 rfl rfl ?_
  exact ⟨_, hle, by rw [show decide ((((newR 1).pend.length : Nat) : Int) = 0) = true from by decide], hst.sub (List.sublist_append_right _ _)⟩
theorem may_down {S : DS} {a : Int} (h : S.down = true) : mayR S a = 8 := by unfold mayR; rw [if_pos h]
theorem may_out {S : DS} {a : Int} (h : S.down = false) (ha : a < 0 ∨ (S.secs.length : Int) ≤ a) : mayR S a = 9 := by unfold mayR; rw [if_neg (by rw [h]; decide), if_pos ha]
theorem may_in {S : DS} {a : Int} (h : S.down = false) (h0 : 0 ≤ a) (h1 : a < S.secs.length) : mayR S a = 0 := by unfold mayR; rw [if_neg (by rw [h]; decide), if_neg (by omega)]
theorem write_no {S : DS} {a e : Int} {b : List UInt8} (h : mayR S a = e) (he : e ≠ 0) : writeR S a b = (S, e) := by unfold writeR; rw [if_pos (by rw [h]; exact he), h]
theorem write_arg {S : DS} {a : Int} {b : List UInt8} (h : mayR S a = 0) (hb : b.length ≠ 32) : writeR S a b = (S, 1) := by unfold writeR; rw [if_neg (by rw [h]; decide), if_pos hb]
theorem write_dry {S : DS} {a : Int} {b : List UInt8} (h : mayR S a = 0) (hb : b.length = 32) (hl : S.left = 0) : writeR S a b = ({ S with down := true }, 8) := by unfold writeR; rw [if_neg (by rw [h]; decide), if_neg (by rw [hb]; decide), if_pos hl]
theorem write_ok {S : DS} {a : Int} {b : List UInt8} (h : mayR S a = 0) (hb : b.length = 32) (hl : S.left ≠ 0) : writeR S a b = ({ S with left := if S.left - 1 > -1 then S.left - 1 else -1, pend := S.pend ++ [(a, b)] }, 0) := by unfold writeR; rw [if_neg (by rw [h]; decide), if_neg (by rw [hb]; decide), if_neg hl]
theorem newR_len (n : Int) : (newR n).secs.length = if n ≤ 0 then 0 else if n ≥ 1024 then 1024 else n.toNat := by simp only [newR, List.length_replicate]
set_option maxRecDepth 100000 in
set_option maxHeartbeats 1000000 in
theorem errors_spec {w0 w : World} {I : Imm} {L : Own} (hst : St w0 w I L) (n size : Int) (hn : i64ok n) (hs : i64ok size) :
    Calls Try.prog 3 #[.int .i64 n, .int .i64 size] w fun e w' => e = .returned (.bool true) ∧ ∃ I', I.le I' ∧ St w0 w' I' L := by
  refine enter Try.func3 rfl (N := 153) rfl rfl ?_
  simp only [List.zipIdx_cons, List.zipIdx_nil, List.map_cons, List.map_nil, Nat.zero_add, Nat.reduceAdd]
  have hle := Imm.le.refl I
  refine CW.seq ?_
  -- region 0
  refine CW.region ?_
  refine RW.op1 rfl (runs_assign rfl) ?_
  refine RW.done ?_
  refine AQ.next ?_
  refine CW.seq ?_
  -- region 1
  refine CW.region ?_
  refine RW.op1 rfl (runs_move rfl) ?_
  refine RW.call rfl call8 rfl rfl (within_spec hst (v := n) (n := 1000) hn (by unfold i64ok; decide)) ?_
  rintro e w ⟨rfl, hstn⟩
  clear hst
  have hst := hstn
  clear hstn
  have hw1 := within_range n 1000
  generalize hx1 : within n 1000 = x1 at *
  refine ⟨_, rfl, ?_⟩
  refine RW.op1 rfl (runs_add rfl rfl (by omega)) ?_
  obtain ⟨n1, hn1⟩ : ∃ m : Int, 1 + x1 = m := ⟨_, rfl⟩
  rw [hn1]
  refine RW.op1 rfl (runs_move rfl) ?_
  refine RW.call rfl call8 rfl rfl (within_spec hst (v := size) (n := 60) hs (by unfold i64ok; decide)) ?_
  rintro e w ⟨rfl, hstn⟩
  clear hst
  have hst := hstn
  clear hstn
  have hw2 := within_range size 60
  generalize hx2 : within size 60 = x2 at *
  obtain ⟨sz, rfl⟩ : ∃ m : Nat, x2 = m := ⟨x2.toNat, by omega⟩
  refine ⟨_, rfl, ?_⟩
  refine RW.op1 rfl (runs_assign rfl) ?_
  refine RW.op1 rfl (runs_assign rfl) ?_
  refine RW.done ?_
  refine AQ.next ?_
  refine CW.seq ?_
  -- region 2
  refine CW.region ?_
  refine RW.call rfl call9 rfl rfl (new_spec hst 3) ?_
  rintro e w ⟨_, Ld1, rfl, _, hstn, hd1, a1, rfl⟩
  clear hst
  have hst := hstn
  clear hstn
  refine ⟨_, rfl, ?_⟩
  refine RW.op1 rfl (runs_assign rfl) ?_
  refine RW.done ?_
  refine AQ.next ?_
  refine CW.seq ?_
  -- region 3
  refine CW.region ?_
  refine RW.op1 rfl (runs_move rfl) ?_
  refine RW.op1 rfl (runs_neg rfl (by omega)) ?_
  refine RW.call rfl call9 rfl rfl (new_spec hst (-n1)) ?_
  rintro e w ⟨_, Ld2, rfl, _, hstn, hd2, a2, rfl⟩
  clear hst
  have hst := hstn
  clear hstn
  refine ⟨_, rfl, ?_⟩
  refine RW.op1 rfl (runs_move rfl) ?_
  refine RW.op1 rfl (runs_add rfl rfl (by omega)) ?_
  refine RW.call rfl call9 rfl rfl (new_spec hst (1024 + n1)) ?_
  rintro e w ⟨_, Ld3, rfl, _, hstn, hd3, a3, rfl⟩
  clear hst
  have hst := hstn
  clear hstn
  refine ⟨_, rfl, ?_⟩
  refine RW.op1 rfl (runs_assign rfl) ?_
  refine RW.op1 rfl (runs_assign rfl) ?_
  refine RW.done ?_
  refine AQ.next ?_
  refine CW.seq ?_
  refine CW.seq ?_
  -- region 4
  refine CW.region ?_
  refine RW.op1 rfl (runs_move rfl) ?_
  refine RW.op1 rfl (runs_eq_nilptr Try.underlying23 rfl) ?_
  refine RW.op1 rfl (runs_move rfl) ?_
  have hk30 := (show (Option.isNone (some a1)) = false from rfl)
  refine RW.on_guard rfl rfl rfl rfl hk30 ?_
  refine RW.op1 rfl (runs_move rfl) ?_
  refine RW.on_guard rfl rfl rfl rfl hk30 ?_
  refine RW.op1 rfl (runs_eq_nilptr Try.underlying23 rfl) ?_
  refine RW.op1 rfl (runs_pick_false rfl hk30 rfl) ?_
  refine RW.op1 rfl (runs_move rfl) ?_
  have hk34 := (show (Option.isNone (some a2)) = false from rfl)
  refine RW.on_guard rfl rfl rfl rfl hk34 ?_
  refine RW.op1 rfl (runs_move rfl) ?_
  refine RW.on_guard rfl rfl rfl rfl hk34 ?_
  refine RW.op1 rfl (runs_eq_nilptr Try.underlying23 rfl) ?_
  refine RW.op1 rfl (runs_pick_false rfl hk34 rfl) ?_
  refine RW.op1 rfl (runs_move rfl) ?_
  have hk38 := (show (Option.isNone (some a3)) = false from rfl)
  refine RW.on_guard rfl rfl rfl rfl hk38 ?_
  refine RW.op1 rfl (runs_move rfl) ?_
  refine RW.on_guard rfl rfl rfl rfl hk38 ?_
  refine RW.call rfl call10 rfl rfl (len_spec hd2 (hst.perm (List.perm_append_comm_assoc _ _ _))) ?_
  rintro e w ⟨rfl, hstn⟩
  clear hst
  have hst := hstn
  clear hstn
  replace hst := hst.perm (List.perm_append_comm_assoc _ _ _)
  rw [newR_len, if_pos (by omega)]
  refine ⟨_, rfl, ?_⟩
  refine RW.on_guard rfl rfl rfl rfl hk38 ?_
  refine RW.op1 rfl (runs_neI rfl rfl) ?_
  refine RW.op1 rfl (runs_pick_false rfl hk38 rfl) ?_
  refine RW.op1 rfl (runs_move rfl) ?_
  have hk43 := (show decide (((0 : Nat) : Int) ≠ 0) = false by decide)
  refine RW.on_guard rfl rfl rfl rfl hk43 ?_
  refine RW.op1 rfl (runs_move rfl) ?_
  refine RW.on_guard rfl rfl rfl rfl hk43 ?_
  refine RW.call rfl call10 rfl rfl (len_spec hd3 hst) ?_
  rintro e w ⟨rfl, hstn⟩
  clear hst
  have hst := hstn
  clear hstn
  rw [newR_len, if_neg (by omega), if_pos (by omega)]
  refine ⟨_, rfl, ?_⟩
  refine RW.on_guard rfl rfl rfl rfl hk43 ?_
  refine RW.op1 rfl (runs_neI rfl rfl) ?_
  refine RW.op1 rfl (runs_pick_false rfl hk43 rfl) ?_
  refine RW.done ?_
  refine AQ.next ?_
  refine CW.cond rfl (fun hc => absurd hc (by decide)) (fun hc => ?_)
  refine CW.skip ?_
  refine AQ.next ?_
  refine CW.seq ?_
  -- region 6
  refine CW.region ?_
  replace hst := (hst.sub (List.sublist_append_right _ _)).perm (List.perm_append_comm_assoc _ _ _)
  refine RW.op1 rfl (runs_move rfl) ?_
  refine RW.opE rfl (runs_makeSlice (n := sz) Try.underlying26 ti5 rfl hst (by omega) (by unfold maxLen; omega)) ?_
  rintro _ w ⟨b6, rfl, hstn⟩
  clear hst
  have hst := hstn
  clear hstn
  rw [made_b8] at hst
  obtain ⟨I6, hI6, hstn, hX⟩ := RdB.of_block (n := sz) (by simp) hst (by unfold maxLen; omega)
  clear hst
  have hst := hstn
  clear hstn
  replace hle := hle.trans hI6
  refine RW.op1 rfl (runs_assign rfl) ?_
  refine RW.done ?_
  refine AQ.next ?_
  refine CW.seq ?_
  -- region 7
  refine CW.region ?_
  refine RW.op1 rfl (runs_assign rfl) ?_
  refine RW.done ?_
  refine AQ.next ?_
  refine CW.seq ?_
  refine CW.seq ?_
  -- region 8
  refine CW.region ?_
  refine RW.op1 rfl (runs_move rfl) ?_
  refine RW.op1 rfl (runs_eqI rfl rfl) ?_
  refine RW.done ?_
  refine AQ.next ?_
  refine CW.cut Unit (fun _ w => St w0 w I6 (Ld1 ++ (Ld2 ++ L))) (fun _ => [(0, .int .i64 n1), (1, .int .i64 (sz : Int)), (5, .pointer (some a1)), (6, .pointer (some a2)), (8, .slice (some ⟨b6, 0, none⟩) sz sz), (9, .int .i64 (if sz = 32 then 0 else 1))]) ?_ ?_
  · refine CW.cond rfl (fun hc51 => ?_) (fun hc51 => ?_)
    · have hcb51 := hc51
      try simp only [decide_eq_true_eq, decide_eq_false_iff_not] at hc51
      -- region 9
      refine CW.region ?_
      refine RW.op1 rfl (runs_assign rfl) ?_
      refine RW.done ?_
      exact AQ.meet () hst ⟨rfl, rfl, rfl, rfl, rfl, (by first | (rw [if_pos (by omega)]; rfl) | (rw [if_neg (by omega)]; rfl)), trivial⟩
    · have hcb51 := hc51
      try simp only [decide_eq_true_eq, decide_eq_false_iff_not] at hc51
      refine CW.skip ?_
      exact AQ.meet () hst ⟨rfl, rfl, rfl, rfl, rfl, (by first | (rw [if_pos (by omega)]; rfl) | (rw [if_neg (by omega)]; rfl)), trivial⟩
  · rintro _ w hstn
    clear hst
    have hst := hstn
    clear hstn
    refine AQ.next ?_
    refine CW.seq ?_
    -- region 10
    refine CW.region ?_
    refine RW.op1 rfl (runs_move rfl) ?_
    refine RW.op1 rfl (runs_move rfl) ?_
    refine RW.op1 rfl (runs_neg rfl (by omega)) ?_
    refine RW.call rfl call11 rfl rfl (read_spec hd1 hst (-n1)) ?_
    rintro e w ⟨I9, v9, hI9, rfl, hstn, _⟩
    clear hst
    have hst := hstn
    clear hstn
    rw [may_out (S := newR 3) (a := -n1) rfl (by omega)]
    replace hX := hX.mono hI9
    replace hle := hle.trans hI9
    refine ⟨_, rfl, ?_⟩
    refine RW.op1 rfl (runs_move rfl) ?_
    refine RW.op1 rfl (runs_extract rfl rfl) ?_
    refine RW.op1 rfl (runs_extract rfl rfl) ?_
    refine RW.op1 rfl (runs_assign rfl) ?_
    refine RW.op1 rfl (runs_assign rfl) ?_
    refine RW.done ?_
    refine AQ.next ?_
    refine CW.seq ?_
    -- region 11
    refine CW.region ?_
    refine RW.op1 rfl (runs_move rfl) ?_
    refine RW.op1 rfl (runs_move rfl) ?_
    refine RW.op1 rfl (runs_add rfl rfl (by omega)) ?_
    refine RW.call rfl call11 rfl rfl (read_spec hd1 hst (2 + n1)) ?_
    rintro e w ⟨I10, v10, hI10, rfl, hstn, _⟩
    clear hst
    have hst := hstn
    clear hstn
    rw [may_out (S := newR 3) (a := 2 + n1) rfl (.inr (by show (3 : Int) ≤ 2 + n1; omega))]
    replace hX := hX.mono hI10
    replace hle := hle.trans hI10
    refine ⟨_, rfl, ?_⟩
    refine RW.op1 rfl (runs_move rfl) ?_
    refine RW.op1 rfl (runs_extract rfl rfl) ?_
    refine RW.op1 rfl (runs_extract rfl rfl) ?_
    refine RW.op1 rfl (runs_assign rfl) ?_
    refine RW.op1 rfl (runs_assign rfl) ?_
    refine RW.done ?_
    refine AQ.next ?_
    refine CW.seq ?_
    -- region 12
    refine CW.region ?_
    refine RW.op1 rfl (runs_move rfl) ?_
    refine RW.call rfl call11 rfl rfl (read_spec hd2 (hst.perm (List.perm_append_comm_assoc _ _ _)) 0) ?_
    rintro e w ⟨I11, v11, hI11, rfl, hstn, _⟩
    clear hst
    have hst := hstn
    clear hstn
    replace hst := hst.sub (List.sublist_append_right _ _)
    rw [may_out (S := newR (-n1)) (a := 0) rfl (.inr (by rw [newR_len, if_pos (by omega)]; decide))]
    replace hX := hX.mono hI11
    replace hle := hle.trans hI11
    refine ⟨_, rfl, ?_⟩
    refine RW.op1 rfl (runs_move rfl) ?_
    refine RW.op1 rfl (runs_extract rfl rfl) ?_
    refine RW.op1 rfl (runs_extract rfl rfl) ?_
    refine RW.op1 rfl (runs_assign rfl) ?_
    refine RW.op1 rfl (runs_assign rfl) ?_
    refine RW.done ?_
    refine AQ.next ?_
    refine CW.seq ?_
    refine CW.seq ?_
    -- region 13
    refine CW.region ?_
    refine RW.op1 rfl (runs_move rfl) ?_
    refine RW.op1 rfl (runs_neI rfl rfl) ?_
    refine RW.op1 rfl (runs_move rfl) ?_
    have hk73 := (show decide ((9 : Int) ≠ 9) = false by decide)
    refine RW.on_guard rfl rfl rfl rfl hk73 ?_
    refine RW.op1 rfl (runs_move rfl) ?_
    refine RW.on_guard rfl rfl rfl rfl hk73 ?_
    refine RW.op1 rfl (runs_neI rfl rfl) ?_
    refine RW.op1 rfl (runs_pick_false rfl hk73 rfl) ?_
    refine RW.op1 rfl (runs_move rfl) ?_
    have hk77 := (show decide ((9 : Int) ≠ 9) = false by decide)
    refine RW.on_guard rfl rfl rfl rfl hk77 ?_
    refine RW.op1 rfl (runs_move rfl) ?_
    refine RW.on_guard rfl rfl rfl rfl hk77 ?_
    refine RW.op1 rfl (runs_neI rfl rfl) ?_
    refine RW.op1 rfl (runs_pick_false rfl hk77 rfl) ?_
    refine RW.op1 rfl (runs_move rfl) ?_
    have hk81 := (show decide ((9 : Int) ≠ 9) = false by decide)
    refine RW.on_guard rfl rfl rfl rfl hk81 ?_
    refine RW.op1 rfl (runs_move rfl) ?_
    refine RW.on_guard rfl rfl rfl rfl hk81 ?_
    refine RW.op1 rfl (runs_move rfl) ?_
    refine RW.on_guard rfl rfl rfl rfl hk81 ?_
    refine RW.op1 rfl (runs_neg rfl (by omega)) ?_
    refine RW.on_guard rfl rfl rfl rfl hk81 ?_
    refine RW.op1 rfl (runs_move rfl) ?_
    refine RW.on_guard rfl rfl rfl rfl hk81 ?_
    refine RW.call rfl call12 rfl rfl (write_spec hd1 hst (-n1) hX (by decide)) ?_
    rintro e w ⟨I12, Ld12, hI12, rfl, hstn, hd1⟩
    clear hst
    have hst := hstn
    clear hstn
    rw [write_no (may_out (S := newR 3) (a := -n1) rfl (by omega)) (by decide)] at hd1 ⊢
    dsimp only at hd1 ⊢
    replace hX := hX.mono hI12
    replace hle := hle.trans hI12
    refine ⟨_, rfl, ?_⟩
    refine RW.on_guard rfl rfl rfl rfl hk81 ?_
    refine RW.op1 rfl (runs_neI rfl rfl) ?_
    refine RW.op1 rfl (runs_pick_false rfl hk81 rfl) ?_
    refine RW.op1 rfl (runs_move rfl) ?_
    have hk89 := (show decide ((9 : Int) ≠ 9) = false by decide)
    refine RW.on_guard rfl rfl rfl rfl hk89 ?_
    refine RW.op1 rfl (runs_move rfl) ?_
    refine RW.on_guard rfl rfl rfl rfl hk89 ?_
    refine RW.op1 rfl (runs_move rfl) ?_
    refine RW.on_guard rfl rfl rfl rfl hk89 ?_
    refine RW.op1 rfl (runs_add rfl rfl (by omega)) ?_
    refine RW.on_guard rfl rfl rfl rfl hk89 ?_
    refine RW.op1 rfl (runs_move rfl) ?_
    refine RW.on_guard rfl rfl rfl rfl hk89 ?_
    refine RW.call rfl call12 rfl rfl (write_spec hd1 hst (2 + n1) hX (by decide)) ?_
    rintro e w ⟨I13, Ld13, hI13, rfl, hstn, hd1⟩
    clear hst
    have hst := hstn
    clear hstn
    rw [write_no (may_out (S := newR 3) (a := 2 + n1) rfl (.inr (by show (3 : Int) ≤ 2 + n1; omega))) (by decide)] at hd1 ⊢
    dsimp only at hd1 ⊢
    replace hX := hX.mono hI13
    replace hle := hle.trans hI13
    refine ⟨_, rfl, ?_⟩
    refine RW.on_guard rfl rfl rfl rfl hk89 ?_
    refine RW.op1 rfl (runs_neI rfl rfl) ?_
    refine RW.op1 rfl (runs_pick_false rfl hk89 rfl) ?_
    refine RW.op1 rfl (runs_move rfl) ?_
    have hk97 := (show decide ((9 : Int) ≠ 9) = false by decide)
    refine RW.on_guard rfl rfl rfl rfl hk97 ?_
    refine RW.op1 rfl (runs_move rfl) ?_
    refine RW.on_guard rfl rfl rfl rfl hk97 ?_
    refine RW.op1 rfl (runs_move rfl) ?_
    refine RW.on_guard rfl rfl rfl rfl hk97 ?_
    refine RW.call rfl call12 rfl rfl (write_spec hd1 hst 1 hX (by decide)) ?_
    rintro e w ⟨I14, Ld14, hI14, rfl, hstn, hd1⟩
    clear hst
    have hst := hstn
    clear hstn
    obtain ⟨S1, hS1, h11, h12, h13⟩ : ∃ S1, writeR (newR 3) 1 (List.replicate sz 0) = (S1, (if sz = 32 then 0 else 1)) ∧ S1.down = false ∧ S1.secs.length = 3 ∧ S1.pend.length ≤ 1 := by
      by_cases hsz : sz = 32
      · rw [if_pos hsz]
        exact ⟨_, write_ok (may_in rfl (by decide) (by decide)) (by rw [List.length_replicate]; exact hsz) (by decide), rfl, rfl, Nat.le_refl 1⟩
      · rw [if_neg hsz]
        exact ⟨_, write_arg (may_in rfl (by decide) (by decide)) (by rw [List.length_replicate]; exact hsz), rfl, rfl, Nat.zero_le _⟩
    rw [hS1] at hd1 ⊢
    dsimp only at hd1 ⊢
    replace hX := hX.mono hI14
    replace hle := hle.trans hI14
    refine ⟨_, rfl, ?_⟩
    refine RW.on_guard rfl rfl rfl rfl hk97 ?_
    refine RW.op1 rfl (runs_move rfl) ?_
    refine RW.on_guard rfl rfl rfl rfl hk97 ?_
    refine RW.op1 rfl (runs_neI rfl rfl) ?_
    refine RW.op1 rfl (runs_pick_false rfl hk97 rfl) ?_
    refine RW.done ?_
    refine AQ.next ?_
    refine CW.cond rfl (fun hc => absurd hc (by simp)) (fun hc => ?_)
    refine CW.skip ?_
    refine AQ.next ?_
    refine CW.seq ?_
    -- region 15
    refine CW.region ?_
    refine RW.op1 rfl (runs_move rfl) ?_
    refine RW.call rfl call13 rfl rfl (limit_spec hd1 hst 0 (by unfold i64ok; decide)) ?_
    rintro e w ⟨rfl, Ld15, hstn, hd1⟩
    clear hst
    have hst := hstn
    clear hstn
    rw [if_pos (by decide)] at hd1
    obtain ⟨S2, hS2⟩ : ∃ S2, { S1 with left := 0 } = S2 := ⟨_, rfl⟩
    rw [hS2] at hd1
    have h21 : S2.down = false := by rw [← hS2]; exact h11
    have h22 : S2.secs.length = 3 := by rw [← hS2]; exact h12
    have h23 : S2.pend.length ≤ 1 := by rw [← hS2]; exact h13
    have h24 : S2.left = 0 := by rw [← hS2]
    refine ⟨_, rfl, ?_⟩
    refine RW.done ?_
    refine AQ.next ?_
    refine CW.seq ?_
    refine CW.seq ?_
    -- region 16
    refine CW.region ?_
    refine RW.op1 rfl (runs_move rfl) ?_
    refine RW.op1 rfl (runs_move rfl) ?_
    refine RW.call rfl call12 rfl rfl (write_spec hd1 hst (-1) hX (by omega)) ?_
    rintro e w ⟨I16, Ld16, hI16, rfl, hstn, hd1⟩
    clear hst
    have hst := hstn
    clear hstn
    rw [write_no (may_out h21 (.inl (by decide))) (by decide)] at hd1 ⊢
    dsimp only at hd1 ⊢
    replace hX := hX.mono hI16
    replace hle := hle.trans hI16
    refine ⟨_, rfl, ?_⟩
    refine RW.op1 rfl (runs_neI rfl rfl) ?_
    refine RW.op1 rfl (runs_move rfl) ?_
    have hk110 := (show decide ((9 : Int) ≠ 9) = false by decide)
    refine RW.on_guard rfl rfl rfl rfl hk110 ?_
    refine RW.op1 rfl (runs_move rfl) ?_
    refine RW.on_guard rfl rfl rfl rfl hk110 ?_
    refine RW.op1 rfl (runs_move rfl) ?_
    refine RW.on_guard rfl rfl rfl rfl hk110 ?_
    refine RW.op1 rfl (runs_move rfl) ?_
    refine RW.on_guard rfl rfl rfl rfl hk110 ?_
    refine RW.op1 rfl (runs_min rfl rfl) ?_
    obtain ⟨m5, hm5, hm6⟩ : ∃ m : Nat, (if (5 : Int) < (sz : Int) then 5 else (sz : Int)) = (m : Int) ∧ m ≤ 5 ∧ m ≤ sz := ⟨if 5 < sz then 5 else sz, by (repeat' split) <;> omega, by (repeat' split) <;> omega, by (repeat' split) <;> omega⟩
    rw [hm5]
    have hXp := RdB.part hX (lo := 0) (hi := m5) (Nat.zero_le _) (by rw [List.length_replicate]; omega)
    refine RW.on_guard rfl rfl rfl rfl hk110 ?_
    refine RW.op1 rfl (RdL.slice_h Try.underlying26 ti5 rfl rfl hX (by simp; omega)) ?_
    refine RW.on_guard rfl rfl rfl rfl hk110 ?_
    refine RW.call rfl call12 rfl rfl (write_spec hd1 hst (0) hXp (by omega)) ?_
    rintro e w ⟨I17, Ld17, hI17, rfl, hstn, hd1⟩
    clear hst
    have hst := hstn
    clear hstn
    rw [write_arg (may_in h21 (by decide) (by omega)) (by simp; omega)] at hd1 ⊢
    dsimp only at hd1 ⊢
    replace hX := hX.mono hI17
    replace hle := hle.trans hI17
    refine ⟨_, rfl, ?_⟩
    refine RW.on_guard rfl rfl rfl rfl hk110 ?_
    refine RW.op1 rfl (runs_neI rfl rfl) ?_
    refine RW.op1 rfl (runs_pick_false rfl hk110 rfl) ?_
    refine RW.op1 rfl (runs_move rfl) ?_
    have hk119 := (show decide ((1 : Int) ≠ 1) = false by decide)
    refine RW.on_guard rfl rfl rfl rfl hk119 ?_
    refine RW.op1 rfl (runs_move rfl) ?_
    refine RW.on_guard rfl rfl rfl rfl hk119 ?_
    refine RW.call rfl call14 rfl rfl (down_spec hd1 hst) ?_
    rintro e w ⟨rfl, hstn⟩
    clear hst
    have hst := hstn
    clear hstn
    rw [h21]
    refine ⟨_, rfl, ?_⟩
    refine RW.op1 rfl (runs_pick_false rfl hk119 rfl) ?_
    refine RW.op1 rfl (runs_move rfl) ?_
    have hk123 := (rfl : false = false)
    refine RW.on_guard rfl rfl rfl rfl hk123 ?_
    refine RW.op1 rfl (runs_move rfl) ?_
    refine RW.on_guard rfl rfl rfl rfl hk123 ?_
    refine RW.opE rfl (runs_makeSlice (n := 32) Try.underlying26 ti5 rfl hst (by omega) (by unfold maxLen; omega)) ?_
    rintro _ w ⟨byy, rfl, hstn⟩
    clear hst
    have hst := hstn
    clear hstn
    rw [made_b8] at hst
    obtain ⟨Iy, hIy, hstn, hy⟩ := RdB.of_block (n := 32) (by simp) hst (by unfold maxLen; omega)
    clear hst
    have hst := hstn
    clear hstn
    replace hle := hle.trans hIy
    replace hX := RdL.mono hIy hX
    refine RW.on_guard rfl rfl rfl rfl hk123 ?_
    refine RW.call rfl call12 rfl rfl (write_spec hd1 hst (0) hy (by omega)) ?_
    rintro e w ⟨I20, Ld20, hI20, rfl, hstn, hd1⟩
    clear hst
    have hst := hstn
    clear hstn
    rw [write_dry (may_in h21 (by decide) (by omega)) (by simp) h24] at hd1 ⊢
    dsimp only at hd1 ⊢
    replace hX := hX.mono hI20
    replace hle := hle.trans hI20
    refine ⟨_, rfl, ?_⟩
    refine RW.on_guard rfl rfl rfl rfl hk123 ?_
    refine RW.op1 rfl (runs_neI rfl rfl) ?_
    refine RW.op1 rfl (runs_pick_false rfl hk123 rfl) ?_
    refine RW.op1 rfl (runs_move rfl) ?_
    have hk129 := (show decide ((8 : Int) ≠ 8) = false by decide)
    refine RW.on_guard rfl rfl rfl rfl hk129 ?_
    refine RW.op1 rfl (runs_move rfl) ?_
    refine RW.on_guard rfl rfl rfl rfl hk129 ?_
    refine RW.call rfl call14 rfl rfl (down_spec hd1 hst) ?_
    rintro e w ⟨rfl, hstn⟩
    clear hst
    have hst := hstn
    clear hstn
    refine ⟨_, rfl, ?_⟩
    refine RW.on_guard rfl rfl rfl rfl hk129 ?_
    refine RW.op1 rfl (runs_not rfl) ?_
    refine RW.op1 rfl (runs_pick_false rfl hk129 rfl) ?_
    refine RW.done ?_
    refine AQ.next ?_
    refine CW.cond rfl (fun hc => absurd hc (by show ¬ (!true) = true; decide)) (fun hc => ?_)
    refine CW.skip ?_
    refine AQ.next ?_
    refine CW.seq ?_
    -- region 18
    refine CW.region ?_
    refine RW.op1 rfl (runs_move rfl) ?_
    refine RW.op1 rfl (runs_move rfl) ?_
    refine RW.op1 rfl (runs_neg rfl (by omega)) ?_
    refine RW.call rfl call11 rfl rfl (read_spec hd1 hst (-n1)) ?_
    rintro e w ⟨I22, v22, hI22, rfl, hstn, _⟩
    clear hst
    have hst := hstn
    clear hstn
    rw [may_down (S := { S2 with down := true }) rfl]
    replace hX := hX.mono hI22
    replace hle := hle.trans hI22
    refine ⟨_, rfl, ?_⟩
    refine RW.op1 rfl (runs_move rfl) ?_
    refine RW.op1 rfl (runs_extract rfl rfl) ?_
    refine RW.op1 rfl (runs_extract rfl rfl) ?_
    refine RW.op1 rfl (runs_assign rfl) ?_
    refine RW.done ?_
    refine AQ.next ?_
    refine CW.seq ?_
    -- region 19
    refine CW.region ?_
    refine RW.op1 rfl (runs_move rfl) ?_
    refine RW.op1 rfl (runs_eqI rfl rfl) ?_
    refine RW.op1 rfl (runs_move rfl) ?_
    have hk143 := (show decide ((8 : Int) = 8) = true by decide)
    refine RW.on_guard rfl rfl rfl rfl hk143 ?_
    refine RW.op1 rfl (runs_move rfl) ?_
    refine RW.on_guard rfl rfl rfl rfl hk143 ?_
    refine RW.op1 rfl (runs_move rfl) ?_
    refine RW.on_guard rfl rfl rfl rfl hk143 ?_
    refine RW.op1 rfl (runs_neg rfl (by omega)) ?_
    refine RW.on_guard rfl rfl rfl rfl hk143 ?_
    refine RW.call rfl call12 rfl rfl (write_spec hd1 hst (-n1) (b := []) (RdL.nil 1) (by show S2.pend.length ≤ _; omega)) ?_
    rintro e w ⟨I23, Ld23, hI23, rfl, hstn, hd1⟩
    clear hst
    have hst := hstn
    clear hstn
    rw [write_no (b := []) (may_down (S := { S2 with down := true }) rfl) (by decide)] at hd1 ⊢
    dsimp only at hd1 ⊢
    replace hX := hX.mono hI23
    replace hle := hle.trans hI23
    refine ⟨_, rfl, ?_⟩
    refine RW.on_guard rfl rfl rfl rfl hk143 ?_
    refine RW.op1 rfl (runs_eqI rfl rfl) ?_
    refine RW.op1 rfl (runs_pick_true rfl hk143 rfl) ?_
    refine RW.op1 rfl (runs_move rfl) ?_
    have hk150 := (show decide ((8 : Int) = 8) = true by decide)
    refine RW.on_guard rfl rfl rfl rfl hk150 ?_
    refine RW.call rfl call15 rfl rfl (wakes01_spec hst) ?_
    rintro e w ⟨I24, hI24, rfl, hstn⟩
    clear hst
    have hst := hstn
    clear hstn
    replace hX := hX.mono hI24
    replace hle := hle.trans hI24
    refine ⟨_, rfl, ?_⟩
    refine RW.op1 rfl (runs_pick_true rfl hk150 rfl) ?_
    refine RW.op1 rfl (runs_assign rfl) ?_
    refine RW.done ?_
    refine AQ.next ?_
    refine CW.ret ?_
    refine AQ.ret1 rfl rfl ?_
    exact ⟨rfl, _, hle, hst.sub (List.sublist_append_right _ _)⟩
end Go.Proofs.YtdhgbcbnkddfdaaX
