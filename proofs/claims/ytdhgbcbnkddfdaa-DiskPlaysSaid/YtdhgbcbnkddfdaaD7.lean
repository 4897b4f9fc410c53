/- A write that is torn: the walk. -/
import Derived.Test.YtdhgbcbnkddfdaaT
import Derived.Test.YtdhgbcbnkddfdaaD6
namespace Go.Proofs.YtdhgbcbnkddfdaaX
set_option linter.unusedVariables false
set_option linter.unusedSimpArgs false
open Go Go.RowKit Go.Proofs

def zs : List UInt8 := List.replicate 32 0
def mk2 (a b : List UInt8) (p : List (Int × List UInt8)) : DS := ⟨[a, b], p, -1, false⟩
theorem newR2 : newR 2 = mk2 zs zs [] := rfl
theorem wr2 {a b x : List UInt8} {p : List (Int × List UInt8)} (hx : x.length = 32) : writeR (mk2 a b p) 1 x = (mk2 a b (p ++ [(1, x)]), 0) := by
  rw [write_ok (may_in rfl (by decide) (by show (1 : Int) < 2; decide)) hx (by show (-1 : Int) ≠ 0; decide)]
  rfl
theorem may2 (a b : List UInt8) (p : List (Int × List UInt8)) : mayR (mk2 a b p) 1 = 0 := may_in rfl (by decide) (by show (1 : Int) < 2; decide)
theorem fl2 (a b x : List UInt8) : flushR (mk2 a b [(1, x)]) = (mk2 a x [], 0) := rfl
theorem cr2 (a b x : List UInt8) (ks : List Int) : crashR (mk2 a b [(1, x)]) ks = mk2 a (x.take (keepN ks 0) ++ b.drop (keepN ks 0)) [] := rfl
theorem torn_at {x y : List UInt8} (hx : x.length = 32) (hy : y.length = 32) {k i : Nat} (hk : k ≤ 32) (hi : i < 32) : bat (y.take k ++ x.drop k) (i : Int) = if i < k then bat y (i : Int) else bat x (i : Int) := by
  unfold bat
  rw [Int.toNat_natCast]
  simp only [List.getD_eq_getElem?_getD]
  split
  · rw [List.getElem?_append_left (by rw [List.length_take]; omega), List.getElem?_take, if_pos (by assumption)]
  · rw [List.getElem?_append_right (by rw [List.length_take]; omega), List.length_take, List.getElem?_drop, show k + (i - min k y.length) = i by omega]
theorem torn_y {x y : List UInt8} (hx : x.length = 32) (hy : y.length = 32) {n : Int} {i : Nat} (hi : i < 32) (h : n = 2 ∨ n = 1 ∧ i < 16) : bat (y.take (keepN [n] 0) ++ x.drop (keepN [n] 0)) (i : Int) = bat y (i : Int) := by
  rw [torn_at hx hy (keepN_le _ _) hi, if_pos]
  show i < (keptR n).toNat
  unfold keptR
  (repeat' split) <;> omega
theorem torn_x {x y : List UInt8} (hx : x.length = 32) (hy : y.length = 32) {n : Int} {i : Nat} (hi : i < 32) (h : ¬ (n = 2 ∨ n = 1 ∧ i < 16)) : bat (y.take (keepN [n] 0) ++ x.drop (keepN [n] 0)) (i : Int) = bat x (i : Int) := by
  rw [torn_at hx hy (keepN_le _ _) hi, if_neg]
  show ¬ i < (keptR n).toNat
  unfold keptR
  (repeat' split) <;> omega
set_option maxRecDepth 100000 in
set_option maxHeartbeats 1000000 in
theorem tears_spec {w0 w : World} {I : Imm} {L : Own} (hst : St w0 w I L) (n m keep : Int) (hn : i64ok n) (hm : i64ok m) (hk : i64ok keep) :
    Calls Try.prog 5 #[.int .i64 n, .int .i64 m, .int .i64 keep] w fun e w' => e = .returned (.bool true) ∧ ∃ I', I.le I' ∧ St w0 w' I' L := by
  refine enter Try.func5 rfl (N := 104) rfl rfl ?_
  simp only [List.zipIdx_cons, List.zipIdx_nil, List.map_cons, List.map_nil, Nat.zero_add, Nat.reduceAdd]
  have hle := Imm.le.refl I
  refine CW.seq ?_
  -- region 0
  refine CW.region ?_
  refine RW.op1 rfl (runs_assign rfl) ?_
  refine RW.done ?_
  refine AQ.next ?_
  refine CW.seq ?_
  -- region 1
  refine CW.region ?_
  refine RW.call rfl call9 rfl rfl (new_spec hst 2) ?_
  rintro e w ⟨_, Ld1, rfl, _, hstn, hd1, a1, rfl⟩
  clear hst
  have hst := hstn
  clear hstn
  rw [newR2] at hd1
  refine ⟨_, rfl, ?_⟩
  refine RW.op1 rfl (runs_assign rfl) ?_
  refine RW.done ?_
  refine AQ.next ?_
  refine CW.seq ?_
  refine CW.seq ?_
  -- region 2
  refine CW.region ?_
  refine RW.op1 rfl (runs_move rfl) ?_
  refine RW.op1 rfl (runs_eq_nilptr Try.underlying23 rfl) ?_
  refine RW.done ?_
  refine AQ.next ?_
  refine CW.cond rfl (fun hc => absurd hc (by rw [(show (Option.isNone (some a1)) = false from rfl)]; decide)) (fun hc => ?_)
  refine CW.skip ?_
  refine AQ.next ?_
  refine CW.seq ?_
  -- region 4
  refine CW.region ?_
  refine RW.op1 rfl (runs_move rfl) ?_
  refine RW.call rfl call16 rfl rfl (bytes_spec hst n 32 hn (by decide)) ?_
  rintro e w ⟨I2, vx, hI2, rfl, hstn, hx⟩
  clear hst
  have hst := hstn
  clear hstn
  have hxl : (bytesOf n 32).length = 32 := bytesOf_length n 32
  generalize bytesOf n 32 = x at hx hxl
  replace hle := hle.trans hI2
  refine ⟨_, rfl, ?_⟩
  refine RW.op1 rfl (runs_move rfl) ?_
  refine RW.call rfl call16 rfl rfl (bytes_spec hst m 32 hm (by decide)) ?_
  rintro e w ⟨I3, vy, hI3, rfl, hstn, hy⟩
  clear hst
  have hst := hstn
  clear hstn
  have hyl : (bytesOf m 32).length = 32 := bytesOf_length m 32
  generalize bytesOf m 32 = y at hy hyl
  replace hx := hx.mono hI3
  replace hle := hle.trans hI3
  refine ⟨_, rfl, ?_⟩
  refine RW.op1 rfl (runs_assign rfl) ?_
  refine RW.op1 rfl (runs_assign rfl) ?_
  refine RW.done ?_
  refine AQ.next ?_
  refine CW.seq ?_
  refine CW.seq ?_
  -- region 5
  refine CW.region ?_
  refine RW.op1 rfl (runs_move rfl) ?_
  refine RW.op1 rfl (runs_move rfl) ?_
  refine RW.call rfl call12 rfl rfl (write_spec hd1 hst 1 hx (Nat.zero_le _)) ?_
  rintro e w ⟨I4, Ld4, hI4, rfl, hstn, hd1⟩
  clear hst
  have hst := hstn
  clear hstn
  rw [wr2 (by assumption)] at hd1 ⊢
  dsimp only [List.nil_append] at hd1 ⊢
  replace hx := hx.mono hI4
  replace hy := hy.mono hI4
  replace hle := hle.trans hI4
  refine ⟨_, rfl, ?_⟩
  refine RW.op1 rfl (runs_neI rfl rfl) ?_
  refine RW.op1 rfl (runs_move rfl) ?_
  have hk27 := (show decide ((0 : Int) ≠ 0) = false by decide)
  refine RW.on_guard rfl rfl rfl rfl hk27 ?_
  refine RW.op1 rfl (runs_move rfl) ?_
  refine RW.on_guard rfl rfl rfl rfl hk27 ?_
  refine RW.call rfl call22 rfl rfl (flush_spec hd1 hst) ?_
  rintro e w ⟨Ld5, rfl, hstn, hd1⟩
  clear hst
  have hst := hstn
  clear hstn
  rw [fl2] at hd1 ⊢
  dsimp only at hd1 ⊢
  refine ⟨_, rfl, ?_⟩
  refine RW.on_guard rfl rfl rfl rfl hk27 ?_
  refine RW.op1 rfl (runs_neI rfl rfl) ?_
  refine RW.op1 rfl (runs_pick_false rfl hk27 rfl) ?_
  refine RW.op1 rfl (runs_move rfl) ?_
  have hk32 := (show decide ((0 : Int) ≠ 0) = false by decide)
  refine RW.on_guard rfl rfl rfl rfl hk32 ?_
  refine RW.op1 rfl (runs_move rfl) ?_
  refine RW.on_guard rfl rfl rfl rfl hk32 ?_
  refine RW.op1 rfl (runs_move rfl) ?_
  refine RW.on_guard rfl rfl rfl rfl hk32 ?_
  refine RW.call rfl call12 rfl rfl (write_spec hd1 hst 1 hy (Nat.zero_le _)) ?_
  rintro e w ⟨I6, Ld6, hI6, rfl, hstn, hd1⟩
  clear hst
  have hst := hstn
  clear hstn
  rw [wr2 (by assumption)] at hd1 ⊢
  dsimp only [List.nil_append] at hd1 ⊢
  replace hx := hx.mono hI6
  replace hy := hy.mono hI6
  replace hle := hle.trans hI6
  refine ⟨_, rfl, ?_⟩
  refine RW.on_guard rfl rfl rfl rfl hk32 ?_
  refine RW.op1 rfl (runs_neI rfl rfl) ?_
  refine RW.op1 rfl (runs_pick_false rfl hk32 rfl) ?_
  refine RW.done ?_
  refine AQ.next ?_
  refine CW.cond rfl (fun hc => absurd hc (by decide)) (fun hc => ?_)
  refine CW.skip ?_
  refine AQ.next ?_
  refine CW.seq ?_
  refine CW.seq ?_
  -- region 7
  refine CW.region ?_
  refine RW.op1 rfl (runs_move rfl) ?_
  refine RW.call rfl call11 rfl rfl (read_spec hd1 hst 1) ?_
  rintro e w ⟨I7, v7, hI7, rfl, hstn, hr7⟩
  clear hst
  have hst := hstn
  clear hstn
  rw [if_pos (may2 _ _ _)] at hr7
  have hr : RdB I7 v7 y := hr7
  replace hx := hx.mono hI7
  replace hy := hy.mono hI7
  replace hle := hle.trans hI7
  refine ⟨_, rfl, ?_⟩
  refine RW.op1 rfl (runs_move rfl) ?_
  refine RW.op1 rfl (runs_extract rfl rfl) ?_
  refine RW.op1 rfl (runs_extract rfl rfl) ?_
  refine RW.op1 rfl (runs_assign rfl) ?_
  refine RW.op1 rfl (runs_assign rfl) ?_
  refine RW.done ?_
  refine AQ.next ?_
  refine CW.seq ?_
  -- region 8
  refine CW.region ?_
  refine RW.op1 rfl (runs_move rfl) ?_
  refine RW.op1 rfl (runs_move rfl) ?_
  refine RW.call rfl call18 rfl rfl (same_spec hst hr hy (by omega)) ?_
  rintro e w ⟨rfl, hstn⟩
  clear hst
  have hst := hstn
  clear hstn
  refine ⟨_, rfl, ?_⟩
  refine RW.op1 rfl (runs_not rfl) ?_
  refine RW.done ?_
  refine AQ.next ?_
  refine CW.cond rfl (fun hc => absurd hc (by simp)) (fun hc => ?_)
  refine CW.skip ?_
  refine AQ.next ?_
  refine CW.seq ?_
  refine CW.seq ?_
  -- region 10
  refine CW.region ?_
  refine RW.op1 rfl (runs_move rfl) ?_
  refine RW.op1 rfl (runs_rem rfl rfl (by omega)) ?_
  refine RW.op1 rfl (runs_neI rfl rfl) ?_
  refine RW.done ?_
  refine AQ.next ?_
  refine CW.cut Int (fun _ w => St w0 w I7 (Ld6 ++ L)) (fun kp => [(2, .int .i64 kp), (7, .pointer (some a1)), (8, vx), (9, vy)]) ?_ ?_
  · refine CW.cond rfl (fun hc49 => ?_) (fun hc49 => ?_)
    · have hcb49 := hc49
      try simp only [decide_eq_true_eq, decide_eq_false_iff_not] at hc49
      -- region 11
      refine CW.region ?_
      refine RW.op1 rfl (runs_move rfl) ?_
      refine RW.call rfl call8 rfl rfl (within_spec hst (v := keep) (n := 3) hk (by unfold i64ok; decide)) ?_
      rintro e w ⟨rfl, hstn⟩
      clear hst
      have hst := hstn
      clear hstn
      refine ⟨_, rfl, ?_⟩
      refine RW.op1 rfl (runs_assign rfl) ?_
      refine RW.done ?_
      exact AQ.meet _ hst ⟨rfl, rfl, rfl, rfl, trivial⟩
    · have hcb49 := hc49
      try simp only [decide_eq_true_eq, decide_eq_false_iff_not] at hc49
      refine CW.skip ?_
      exact AQ.meet _ hst ⟨rfl, rfl, rfl, rfl, trivial⟩
  · rintro kp w hstn
    clear hst
    have hst := hstn
    clear hstn
    refine AQ.next ?_
    refine CW.seq ?_
    -- region 12
    refine CW.region ?_
    refine RW.op1 rfl (runs_move rfl) ?_
    refine RW.op1 rfl (runs_move rfl) ?_
    refine RW.opE rfl (runs_lit1R Try.underlying42 ti3 (by decide) rfl rfl rfl (by simp [Value.oneCell']) hst) ?_
    rintro u10 w ⟨I10, hI10, hstn, h10⟩
    clear hst
    have hst := hstn
    clear hstn
    replace hx := hx.mono hI10
    replace hy := hy.mono hI10
    replace hle := hle.trans hI10
    have hK : RdI _ u10 [kp] := h10
    refine RW.call rfl call21 rfl rfl (crash_spec hd1 hst hK) ?_
    rintro e w ⟨Ld11, rfl, hstn, hd1⟩
    clear hst
    have hst := hstn
    clear hstn
    rw [cr2] at hd1
    refine ⟨_, rfl, ?_⟩
    refine RW.done ?_
    refine AQ.next ?_
    refine CW.seq ?_
    -- region 13
    refine CW.region ?_
    refine RW.op1 rfl (runs_move rfl) ?_
    refine RW.call rfl call11 rfl rfl (read_spec hd1 hst 1) ?_
    rintro e w ⟨I12, v12, hI12, rfl, hstn, hr12⟩
    clear hst
    have hst := hstn
    clear hstn
    rw [if_pos (may2 _ _ _)] at hr12
    have hr : RdB I12 v12 (y.take (keepN [kp] 0) ++ x.drop (keepN [kp] 0)) := hr12
    have hrl : (y.take (keepN [kp] 0) ++ x.drop (keepN [kp] 0)).length = 32 := by rw [List.length_append, List.length_take, List.length_drop]; have := keepN_le [kp] 0; omega
    obtain ⟨vr, hvr⟩ : ∃ u, v12 = u := ⟨_, rfl⟩
    rw [hvr] at hr ⊢
    rw [may2]
    replace hx := hx.mono hI12
    replace hy := hy.mono hI12
    replace h10 := h10.mono hI12
    replace hK := hK.mono hI12
    replace hle := hle.trans hI12
    refine ⟨_, rfl, ?_⟩
    refine RW.op1 rfl (runs_move rfl) ?_
    refine RW.op1 rfl (runs_extract rfl rfl) ?_
    refine RW.op1 rfl (runs_extract rfl rfl) ?_
    refine RW.op1 rfl (runs_assign rfl) ?_
    refine RW.op1 rfl (runs_assign rfl) ?_
    refine RW.done ?_
    refine AQ.next ?_
    refine CW.seq ?_
    refine CW.seq ?_
    -- region 14
    refine CW.region ?_
    refine RW.op1 rfl (runs_move rfl) ?_
    refine RW.op1 rfl (runs_neI rfl rfl) ?_
    refine RW.op1 rfl (runs_move rfl) ?_
    have hk63 := (show decide ((0 : Int) ≠ 0) = false by decide)
    refine RW.on_guard rfl rfl rfl rfl hk63 ?_
    refine RW.op1 rfl (runs_move rfl) ?_
    refine RW.on_guard rfl rfl rfl rfl hk63 ?_
    refine RW.op1 rfl (RdL.len Try.underlying26 rfl hr) ?_
    refine RW.on_guard rfl rfl rfl rfl hk63 ?_
    refine RW.op1 rfl (runs_neI rfl rfl) ?_
    refine RW.op1 rfl (runs_pick_false rfl hk63 rfl) ?_
    refine RW.done ?_
    refine AQ.next ?_
    refine CW.cond rfl (fun hc => absurd hc (by rw [decide_eq_true_eq]; omega)) (fun hc => ?_)
    refine CW.skip ?_
    refine AQ.next ?_
    refine CW.seq ?_
    refine CW.seq ?_
    -- region 16
    refine CW.region ?_
    refine RW.op1 rfl (runs_move rfl) ?_
    refine RW.op1 rfl (RdL.len Try.underlying26 rfl hr) ?_
    refine RW.op1 rfl (runs_move rfl) ?_
    refine RW.done ?_
    refine AQ.next ?_
    refine CW.block ?_
    -- loop 1
    refine CW.loop Nat (fun k w => St w0 w I12 (Ld11 ++ L) ∧ k ≤ 32) (fun k => [(2, .int .i64 kp), (7, .pointer (some a1)), (8, vx), (9, vy), (12, vr), (69, .int .i64 ((y.take (keepN [kp] 0) ++ x.drop (keepN [kp] 0)).length : Nat)), (70, .int .i64 (k : Int))]) (fun k => 32 - k) ⟨0, ⟨hst, Nat.zero_le _⟩, ⟨rfl, rfl, rfl, rfl, rfl, rfl, rfl, trivial⟩⟩ ?_
    rintro k w ⟨hstn, hk32⟩
    clear hst
    have hst := hstn
    clear hstn
    refine CW.seq ?_
    -- region 17
    refine CW.region ?_
    refine RW.op1 rfl (runs_lss rfl rfl) ?_
    refine RW.done ?_
    refine AQ.next ?_
    refine CW.seq ?_
    refine CW.cond rfl (fun hc71 => ?_) (fun hc71 => ?_)
    · have hcb71 := hc71
      try simp only [decide_eq_true_eq, decide_eq_false_iff_not] at hc71
      rw [hrl] at hc71
      have hk1 : k < 32 := by omega
      refine CW.skip ?_
      refine AQ.next ?_
      refine CW.seq ?_
      refine CW.block ?_
      refine CW.seq ?_
      -- region 18
      refine CW.region ?_
      refine RW.op1 rfl (runs_move rfl) ?_
      refine RW.op1 rfl (runs_assign rfl) ?_
      refine RW.done ?_
      refine AQ.next ?_
      refine CW.seq ?_
      -- region 19
      refine CW.region ?_
      refine RW.op1 rfl (runs_move rfl) ?_
      refine RW.op1 rfl (runs_move rfl) ?_
      refine RW.op1 rfl (RdL.indexAddr Try.underlying26 ti5 (by decide) rfl rfl hx (by omega)) ?_
      refine RW.op1 rfl (runs_load1 sc5 rfl (hst.cell_imm (RdB.at hx (by omega) (by omega)))) ?_
      refine RW.op1 rfl (runs_assign rfl) ?_
      refine RW.done ?_
      refine AQ.next ?_
      refine CW.seq ?_
      refine CW.seq ?_
      -- region 20
      refine CW.region ?_
      refine RW.op1 rfl (runs_move rfl) ?_
      refine RW.op1 rfl (runs_eqI rfl rfl) ?_
      refine RW.op1 rfl (runs_move rfl) ?_
      refine RW.split (t := 79) rfl (fun hb79 => ?_) (fun hb79 => ?_)
      · have hb79p := hb79
        try simp only [decide_eq_true_eq, decide_eq_false_iff_not] at hb79p
        refine RW.off_guard rfl rfl rfl rfl hb79 ?_
        refine RW.off_guard rfl rfl rfl rfl hb79 ?_
        refine RW.off_guard rfl rfl rfl rfl hb79 ?_
        refine RW.off_undef rfl rfl rfl rfl ?_
        refine RW.off_undef rfl rfl rfl rfl ?_
        refine RW.off_guard rfl rfl rfl rfl hb79 ?_
        refine RW.op1 rfl (runs_pick_true rfl hb79 rfl) ?_
        refine RW.done ?_
        refine AQ.next ?_
        refine CW.cut Unit (fun _ w => St w0 w I12 (Ld11 ++ L)) (fun _ => [(2, .int .i64 kp), (7, .pointer (some a1)), (8, vx), (9, vy), (12, vr), (69, .int .i64 ((y.take (keepN [kp] 0) ++ x.drop (keepN [kp] 0)).length : Nat)), (70, .int .i64 (k : Int)), (14, .int .i64 (k : Int)), (15, .int .u8 (bat (y.take (keepN [kp] 0) ++ x.drop (keepN [kp] 0)) (k : Int)))]) ?_ ?_
        · refine CW.cond rfl (fun hc86 => ?_) (fun hc86 => ?_)
          · have hcb86 := hc86
            try simp only [decide_eq_true_eq, decide_eq_false_iff_not] at hc86
            -- region 21
            refine CW.region ?_
            refine RW.op1 rfl (runs_move rfl) ?_
            refine RW.op1 rfl (runs_move rfl) ?_
            refine RW.op1 rfl (RdL.indexAddr Try.underlying26 ti5 (by decide) rfl rfl hy (by omega)) ?_
            refine RW.op1 rfl (runs_load1 sc5 rfl (hst.cell_imm (RdB.at hy (by omega) (by omega)))) ?_
            refine RW.op1 rfl (runs_assign rfl) ?_
            refine RW.done ?_
            exact AQ.meet () hst ⟨rfl, rfl, rfl, rfl, rfl, rfl, rfl, rfl, (by first | exact absurd hcb86 (by decide) | (rw [torn_y hxl hyl hk1 (by omega)]; rfl) | (rw [torn_x hxl hyl hk1 (by omega)]; rfl)), trivial⟩
          · have hcb86 := hc86
            try simp only [decide_eq_true_eq, decide_eq_false_iff_not] at hc86
            refine CW.skip ?_
            exact AQ.meet () hst ⟨rfl, rfl, rfl, rfl, rfl, rfl, rfl, rfl, (by first | exact absurd hcb86 (by decide) | (rw [torn_y hxl hyl hk1 (by omega)]; rfl) | (rw [torn_x hxl hyl hk1 (by omega)]; rfl)), trivial⟩
        · rintro _ w hstn
          clear hst
          have hst := hstn
          clear hstn
          refine AQ.next ?_
          refine CW.seq ?_
          -- region 22
          refine CW.region ?_
          refine RW.op1 rfl (runs_move rfl) ?_
          refine RW.op1 rfl (runs_move rfl) ?_
          refine RW.op1 rfl (RdL.indexAddr Try.underlying26 ti5 (by decide) rfl rfl hr (by omega)) ?_
          refine RW.op1 rfl (runs_load1 sc5 rfl (hst.cell_imm (RdB.at hr (by omega) (by omega)))) ?_
          refine RW.op1 rfl (runs_move rfl) ?_
          refine RW.op1 rfl (runs_neI rfl rfl) ?_
          refine RW.done ?_
          refine AQ.next ?_
          refine CW.cond rfl (fun hc => absurd hc (by simp)) (fun hc => ?_)
          refine CW.skip ?_
          refine AQ.block_normal ?_
          refine AQ.next ?_
          -- region 24
          refine CW.region ?_
          refine RW.op1 rfl (runs_add rfl rfl (by omega)) ?_
          refine RW.op1 rfl (runs_move rfl) ?_
          refine RW.done ?_
          exact AQ.again (x := k) (k + 1) ⟨hst, by omega⟩ ⟨rfl, rfl, rfl, rfl, rfl, rfl, rfl, trivial⟩ (by omega)
      · have hb79p := hb79
        try simp only [decide_eq_true_eq, decide_eq_false_iff_not] at hb79p
        refine RW.on_guard rfl rfl rfl rfl hb79 ?_
        refine RW.op1 rfl (runs_move rfl) ?_
        refine RW.on_guard rfl rfl rfl rfl hb79 ?_
        refine RW.op1 rfl (runs_eqI rfl rfl) ?_
        refine RW.on_guard rfl rfl rfl rfl hb79 ?_
        refine RW.op1 rfl (runs_move rfl) ?_
        refine RW.split (t := 82) rfl (fun hb82 => ?_) (fun hb82 => ?_)
        · have hb82p := hb82
          try simp only [decide_eq_true_eq, decide_eq_false_iff_not] at hb82p
          refine RW.on_guard rfl rfl rfl rfl hb82 ?_
          refine RW.op1 rfl (runs_move rfl) ?_
          refine RW.on_guard rfl rfl rfl rfl hb82 ?_
          refine RW.op1 rfl (runs_lss rfl rfl) ?_
          refine RW.on_guard rfl rfl rfl rfl hb79 ?_
          refine RW.op1 rfl (runs_pick_true rfl hb82 rfl) ?_
          refine RW.op1 rfl (runs_pick_false rfl hb79 rfl) ?_
          refine RW.done ?_
          refine AQ.next ?_
          refine CW.cut Unit (fun _ w => St w0 w I12 (Ld11 ++ L)) (fun _ => [(2, .int .i64 kp), (7, .pointer (some a1)), (8, vx), (9, vy), (12, vr), (69, .int .i64 ((y.take (keepN [kp] 0) ++ x.drop (keepN [kp] 0)).length : Nat)), (70, .int .i64 (k : Int)), (14, .int .i64 (k : Int)), (15, .int .u8 (bat (y.take (keepN [kp] 0) ++ x.drop (keepN [kp] 0)) (k : Int)))]) ?_ ?_
          · refine CW.cond rfl (fun hc86 => ?_) (fun hc86 => ?_)
            · have hcb86 := hc86
              try simp only [decide_eq_true_eq, decide_eq_false_iff_not] at hc86
              -- region 21
              refine CW.region ?_
              refine RW.op1 rfl (runs_move rfl) ?_
              refine RW.op1 rfl (runs_move rfl) ?_
              refine RW.op1 rfl (RdL.indexAddr Try.underlying26 ti5 (by decide) rfl rfl hy (by omega)) ?_
              refine RW.op1 rfl (runs_load1 sc5 rfl (hst.cell_imm (RdB.at hy (by omega) (by omega)))) ?_
              refine RW.op1 rfl (runs_assign rfl) ?_
              refine RW.done ?_
              exact AQ.meet () hst ⟨rfl, rfl, rfl, rfl, rfl, rfl, rfl, rfl, (by first | exact absurd hcb86 (by decide) | (rw [torn_y hxl hyl hk1 (by omega)]; rfl) | (rw [torn_x hxl hyl hk1 (by omega)]; rfl)), trivial⟩
            · have hcb86 := hc86
              try simp only [decide_eq_true_eq, decide_eq_false_iff_not] at hc86
              refine CW.skip ?_
              exact AQ.meet () hst ⟨rfl, rfl, rfl, rfl, rfl, rfl, rfl, rfl, (by first | exact absurd hcb86 (by decide) | (rw [torn_y hxl hyl hk1 (by omega)]; rfl) | (rw [torn_x hxl hyl hk1 (by omega)]; rfl)), trivial⟩
          · rintro _ w hstn
            clear hst
            have hst := hstn
            clear hstn
            refine AQ.next ?_
            refine CW.seq ?_
            -- region 22
            refine CW.region ?_
            refine RW.op1 rfl (runs_move rfl) ?_
            refine RW.op1 rfl (runs_move rfl) ?_
            refine RW.op1 rfl (RdL.indexAddr Try.underlying26 ti5 (by decide) rfl rfl hr (by omega)) ?_
            refine RW.op1 rfl (runs_load1 sc5 rfl (hst.cell_imm (RdB.at hr (by omega) (by omega)))) ?_
            refine RW.op1 rfl (runs_move rfl) ?_
            refine RW.op1 rfl (runs_neI rfl rfl) ?_
            refine RW.done ?_
            refine AQ.next ?_
            refine CW.cond rfl (fun hc => absurd hc (by simp)) (fun hc => ?_)
            refine CW.skip ?_
            refine AQ.block_normal ?_
            refine AQ.next ?_
            -- region 24
            refine CW.region ?_
            refine RW.op1 rfl (runs_add rfl rfl (by omega)) ?_
            refine RW.op1 rfl (runs_move rfl) ?_
            refine RW.done ?_
            exact AQ.again (x := k) (k + 1) ⟨hst, by omega⟩ ⟨rfl, rfl, rfl, rfl, rfl, rfl, rfl, trivial⟩ (by omega)
        · have hb82p := hb82
          try simp only [decide_eq_true_eq, decide_eq_false_iff_not] at hb82p
          refine RW.off_guard rfl rfl rfl rfl hb82 ?_
          refine RW.off_guard rfl rfl rfl rfl hb82 ?_
          refine RW.on_guard rfl rfl rfl rfl hb79 ?_
          refine RW.op1 rfl (runs_pick_false rfl hb82 rfl) ?_
          refine RW.op1 rfl (runs_pick_false rfl hb79 rfl) ?_
          refine RW.done ?_
          refine AQ.next ?_
          refine CW.cut Unit (fun _ w => St w0 w I12 (Ld11 ++ L)) (fun _ => [(2, .int .i64 kp), (7, .pointer (some a1)), (8, vx), (9, vy), (12, vr), (69, .int .i64 ((y.take (keepN [kp] 0) ++ x.drop (keepN [kp] 0)).length : Nat)), (70, .int .i64 (k : Int)), (14, .int .i64 (k : Int)), (15, .int .u8 (bat (y.take (keepN [kp] 0) ++ x.drop (keepN [kp] 0)) (k : Int)))]) ?_ ?_
          · refine CW.cond rfl (fun hc86 => ?_) (fun hc86 => ?_)
            · have hcb86 := hc86
              try simp only [decide_eq_true_eq, decide_eq_false_iff_not] at hc86
              -- region 21
              refine CW.region ?_
              refine RW.op1 rfl (runs_move rfl) ?_
              refine RW.op1 rfl (runs_move rfl) ?_
              refine RW.op1 rfl (RdL.indexAddr Try.underlying26 ti5 (by decide) rfl rfl hy (by omega)) ?_
              refine RW.op1 rfl (runs_load1 sc5 rfl (hst.cell_imm (RdB.at hy (by omega) (by omega)))) ?_
              refine RW.op1 rfl (runs_assign rfl) ?_
              refine RW.done ?_
              exact AQ.meet () hst ⟨rfl, rfl, rfl, rfl, rfl, rfl, rfl, rfl, (by first | exact absurd hcb86 (by decide) | (rw [torn_y hxl hyl hk1 (by omega)]; rfl) | (rw [torn_x hxl hyl hk1 (by omega)]; rfl)), trivial⟩
            · have hcb86 := hc86
              try simp only [decide_eq_true_eq, decide_eq_false_iff_not] at hc86
              refine CW.skip ?_
              exact AQ.meet () hst ⟨rfl, rfl, rfl, rfl, rfl, rfl, rfl, rfl, (by first | exact absurd hcb86 (by decide) | (rw [torn_y hxl hyl hk1 (by omega)]; rfl) | (rw [torn_x hxl hyl hk1 (by omega)]; rfl)), trivial⟩
          · rintro _ w hstn
            clear hst
            have hst := hstn
            clear hstn
            refine AQ.next ?_
            refine CW.seq ?_
            -- region 22
            refine CW.region ?_
            refine RW.op1 rfl (runs_move rfl) ?_
            refine RW.op1 rfl (runs_move rfl) ?_
            refine RW.op1 rfl (RdL.indexAddr Try.underlying26 ti5 (by decide) rfl rfl hr (by omega)) ?_
            refine RW.op1 rfl (runs_load1 sc5 rfl (hst.cell_imm (RdB.at hr (by omega) (by omega)))) ?_
            refine RW.op1 rfl (runs_move rfl) ?_
            refine RW.op1 rfl (runs_neI rfl rfl) ?_
            refine RW.done ?_
            refine AQ.next ?_
            refine CW.cond rfl (fun hc => absurd hc (by simp)) (fun hc => ?_)
            refine CW.skip ?_
            refine AQ.block_normal ?_
            refine AQ.next ?_
            -- region 24
            refine CW.region ?_
            refine RW.op1 rfl (runs_add rfl rfl (by omega)) ?_
            refine RW.op1 rfl (runs_move rfl) ?_
            refine RW.done ?_
            exact AQ.again (x := k) (k + 1) ⟨hst, by omega⟩ ⟨rfl, rfl, rfl, rfl, rfl, rfl, rfl, trivial⟩ (by omega)
    · have hcb71 := hc71
      try simp only [decide_eq_true_eq, decide_eq_false_iff_not] at hc71
      rw [hrl] at hc71
      refine CW.exit ?_
      refine AQ.past_exit ?_
      refine AQ.past_exit ?_
      refine AQ.block_hit ?_
      refine AQ.next ?_
      refine CW.seq ?_
      -- region 25
      refine CW.region ?_
      refine RW.op1 rfl (runs_move rfl) ?_
      refine RW.call rfl call20 rfl rfl (pending_spec hd1 hst) ?_
      rintro e w ⟨rfl, hstn⟩
      clear hst
      have hst := hstn
      clear hstn
      refine ⟨_, rfl, ?_⟩
      refine RW.op1 rfl (runs_eqI rfl rfl) ?_
      refine RW.op1 rfl (runs_move rfl) ?_
      have hk101 := (show decide (((0 : Nat) : Int) = 0) = true by decide)
      refine RW.on_guard rfl rfl rfl rfl hk101 ?_
      refine RW.call rfl call15 rfl rfl (wakes01_spec hst) ?_
      rintro e w ⟨I14, hI14, rfl, hstn⟩
      clear hst
      have hst := hstn
      clear hstn
      replace hx := hx.mono hI14
      replace hy := hy.mono hI14
      replace hr := hr.mono hI14
      replace hle := hle.trans hI14
      refine ⟨_, rfl, ?_⟩
      refine RW.op1 rfl (runs_pick_true rfl hk101 rfl) ?_
      refine RW.op1 rfl (runs_assign rfl) ?_
      refine RW.done ?_
      refine AQ.next ?_
      refine CW.ret ?_
      refine AQ.ret1 rfl rfl ?_
      exact ⟨rfl, _, hle, hst.sub (List.sublist_append_right _ _)⟩
end Go.Proofs.YtdhgbcbnkddfdaaX
