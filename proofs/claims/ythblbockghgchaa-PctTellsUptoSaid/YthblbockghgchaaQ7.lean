/- The example; any bytes as percent signs and digits: the walk. -/
import Derived.Test.YthblbockghgchaaT
import Derived.Test.YthblbockghgchaaQ6
namespace Go.Proofs.YthblbockghgchaaX
set_option linter.unusedVariables false
set_option linter.unusedSimpArgs false
open Go Go.RowKit Go.Proofs

set_option maxRecDepth 100000 in
set_option maxHeartbeats 1000000 in
theorem wakes06_spec {w0 w : World} {I : Imm} {L : Own} (hst : St w0 w I L) :
    Calls Try.prog 10 #[] w fun e w' => ∃ I', Imm.le I I' ∧ e = .returned (.bool true) ∧ St w0 w' I' L := by
  refine enter Try.func10 rfl (N := 3) rfl rfl ?_
  simp only [List.zipIdx_cons, List.zipIdx_nil, List.map_cons, List.map_nil, Nat.zero_add, Nat.reduceAdd]
  have hle := Imm.le.refl I
  refine CW.seq ?_
  -- region 0
  refine CW.region ?_
  refine RW.op1 rfl (runs_assign rfl) ?_
  refine RW.done ?_
  refine AQ.next ?_
  refine CW.seq ?_
  -- region 1
  refine CW.region ?_
  refine RW.call rfl call8 rfl rfl (encode_spec hst (strOf [32]) (by decide)) ?_
  rintro e w ⟨I1, hI1, rfl, hstn⟩
  clear hst
  have hst := hstn
  clear hstn
  rw [strOf_toList, wake_enc]
  replace hle := hle.trans hI1
  refine ⟨_, rfl, ?_⟩
  refine RW.op1 rfl (runs_eqS rfl rfl) ?_
  refine RW.op1 rfl (runs_assign rfl) ?_
  refine RW.done ?_
  refine AQ.next ?_
  refine CW.ret ?_
  refine AQ.ret1 rfl rfl ?_
  exact ⟨_, hle, congrArg (fun b => Ending.returned (Value.bool b)) (beq_self_list (strOf [37, 50, 48]).toList), hst⟩
set_option maxRecDepth 100000 in
set_option maxHeartbeats 1000000 in
theorem pbytes_spec {w0 w : World} {I : Imm} {L : Own} (hst : St w0 w I L) {v0 : Value} {bs : List UInt8} (hv0 : RdB I v0 bs) (hbl : bs.length ≤ 9223372036854775807) (small : Bool) :
    Calls Try.prog 4 #[v0, .bool small] w fun e w' => e = .returned (.bool true) ∧ ∃ I', I.le I' ∧ St w0 w' I' L := by
  refine enter Try.func4 rfl (N := 119) rfl rfl ?_
  simp only [List.zipIdx_cons, List.zipIdx_nil, List.map_cons, List.map_nil, Nat.zero_add, Nat.reduceAdd]
  have hle := Imm.le.refl I
  refine CW.seq ?_
  -- region 0
  refine CW.region ?_
  refine RW.op1 rfl (runs_assign rfl) ?_
  refine RW.done ?_
  refine AQ.next ?_
  refine CW.seq ?_
  -- region 1
  refine CW.region ?_
  refine RW.op1 rfl (runs_assign rfl) ?_
  refine RW.done ?_
  refine AQ.next ?_
  refine CW.seq ?_
  refine CW.seq ?_
  -- region 2
  refine CW.region ?_
  refine RW.op1 rfl (runs_move rfl) ?_
  refine RW.op1 rfl (RdL.len Try.underlying25 rfl hv0) ?_
  refine RW.op1 rfl (runs_move rfl) ?_
  refine RW.done ?_
  refine AQ.next ?_
  refine CW.block ?_
  -- loop 1
  refine CW.loop Nat (fun k w => St w0 w I L ∧ k ≤ bs.length ∧ k ≤ 40) (fun k => [(0, v0), (1, .bool small), (5, .string (strOf ((bs.take k).flatMap (pctS small)))), (16, v0), (17, .int .i64 (bs.length : Nat)), (18, .int .i64 (k : Nat))]) (fun k => bs.length - k) ⟨0, ⟨hst, Nat.zero_le _, by omega⟩, ⟨rfl, rfl, rfl, rfl, rfl, rfl, trivial⟩⟩ ?_
  rintro k w ⟨hstn, hk, hk40⟩
  clear hst
  have hst := hstn
  clear hstn
  refine CW.seq ?_
  -- region 3
  refine CW.region ?_
  refine RW.op1 rfl (runs_lss rfl rfl) ?_
  refine RW.done ?_
  refine AQ.next ?_
  refine CW.seq ?_
  refine CW.cond rfl (fun hc19 => ?_) (fun hc19 => ?_)
  · have hcb19 := hc19
    try simp only [decide_eq_true_eq, decide_eq_false_iff_not] at hc19
    have hk1 : k < bs.length := by omega
    obtain ⟨c, hc⟩ : ∃ c, bs[k] = c := ⟨_, rfl⟩
    have hcl := c.toNat_lt
    have hbat : bat bs (k : Int) = (c.toNat : Int) := by unfold bat; simp [hk1, hc]
    have hft := flat_take (f := pctS small) hk1
    rw [show bs.getD k 0 = c by simp [hk1, hc]] at hft
    have hz2 := strOf_size ((bs.take k).flatMap (pctS small))
    have h5 := pctS_len (small := small) (bs.take k)
    rw [List.length_take] at h5
    refine CW.skip ?_
    refine AQ.next ?_
    refine CW.seq ?_
    refine CW.block ?_
    refine CW.seq ?_
    -- region 4
    refine CW.region ?_
    refine RW.op1 rfl (runs_move rfl) ?_
    refine RW.op1 rfl (RdL.indexAddr Try.underlying25 ti5 (by decide) rfl rfl hv0 (by omega)) ?_
    refine RW.op1 rfl (runs_load1 sc5 rfl (hst.cell_imm (RdB.at hv0 (by omega) (by omega)))) ?_
    rw [hbat]
    refine RW.op1 rfl (runs_assign rfl) ?_
    refine RW.op1 rfl (runs_assign rfl) ?_
    refine RW.done ?_
    refine AQ.next ?_
    refine CW.seq ?_
    refine CW.seq ?_
    -- region 5
    refine CW.region ?_
    refine RW.op1 rfl (runs_move rfl) ?_
    refine RW.op1 rfl (runs_geq rfl rfl) ?_
    refine RW.done ?_
    refine AQ.next ?_
    refine CW.cond rfl (fun hc24 => ?_) (fun hc24 => ?_)
    · have hcb24 := hc24
      try simp only [decide_eq_true_eq, decide_eq_false_iff_not] at hc24
      refine CW.seq ?_
      -- region 6
      refine CW.region ?_
      refine RW.op1 rfl (runs_move rfl) ?_
      have hpt := RdB.part hv0 (lo := 0) (hi := 40) (by omega) (by omega)
      refine RW.op1 rfl (RdL.slice_h Try.underlying25 ti5 rfl rfl hv0 (by omega)) ?_
      refine RW.op1 rfl (runs_assign rfl) ?_
      rw [List.drop_zero] at hpt
      obtain ⟨v1, b1, hb1, hl1, e1, e2⟩ : ∃ v1 b1, RdB I v1 b1 ∧ b1.length ≤ 40 ∧ Go.Proofs.YthblbockghgchaaX.partV v0 0 ((40 : Int)).toNat 1 = v1 ∧ bs.take k = b1 := ⟨_, _, hpt, by rw [List.length_take]; omega, rfl, by rw [show k = 40 by omega]⟩
      rw [e1, e2]
      refine RW.done ?_
      refine AQ.next ?_
      refine CW.exit ?_
      refine AQ.past_exit ?_
      refine AQ.block_miss rfl ?_
      refine AQ.past_exit ?_
      refine AQ.past_exit ?_
      refine AQ.block_hit ?_
      refine AQ.next ?_
      refine CW.seq ?_
      -- region 11
      refine CW.region ?_
      obtain ⟨hd0, hd1, hd2, hd3, he0⟩ := bytes_laws (small := small) b1
      have hsl := pctS_len (small := small) b1
      generalize (b1.flatMap (pctS small)) = sB at hd0 hd1 hd2 hd3 he0 hsl ⊢
      have hsz := strOf_size sB
      have hs1 : (strOf [37]).size = 1 := rfl
      have hs2 : (strOf [37, 52]).size = 2 := rfl
      have hs3 : (strOf [120]).size = 1 := rfl
      have hs4 : (strOf [121]).size = 1 := rfl
      refine RW.op1 rfl (runs_move rfl) ?_
      refine RW.call rfl call11 rfl rfl (decode_spec hst (strOf sB) (by omega)) ?_
      rintro e w ⟨I1, hI1, rfl, hstn⟩
      clear hst
      have hst := hstn
      clear hstn
      rw [strOf_toList, hd0]
      dsimp only [Option.getD, Option.isSome]
      replace hb1 := hb1.mono hI1
      replace hle := hle.trans hI1
      refine ⟨_, rfl, ?_⟩
      refine RW.op1 rfl (runs_move rfl) ?_
      refine RW.op1 rfl (runs_extract rfl rfl) ?_
      refine RW.op1 rfl (runs_extract rfl rfl) ?_
      refine RW.op1 rfl (runs_assign rfl) ?_
      refine RW.op1 rfl (runs_assign rfl) ?_
      refine RW.done ?_
      refine AQ.next ?_
      refine CW.seq ?_
      -- region 12
      refine CW.region ?_
      refine RW.op1 rfl (runs_move rfl) ?_
      refine RW.op1 rfl (runs_addS (b := strOf [37]) rfl rfl (by omega)) ?_
      rw [strOf_app]
      have hsz1 := strOf_size (sB ++ [37])
      rw [List.length_append, List.length_singleton] at hsz1
      refine RW.call rfl call11 rfl rfl (decode_spec hst (strOf (sB ++ [37])) (by omega)) ?_
      rintro e w ⟨I2, hI2, rfl, hstn⟩
      clear hst
      have hst := hstn
      clear hstn
      rw [strOf_toList, hd1]
      dsimp only [Option.getD, Option.isSome]
      replace hb1 := hb1.mono hI2
      replace hle := hle.trans hI2
      refine ⟨_, rfl, ?_⟩
      refine RW.op1 rfl (runs_move rfl) ?_
      refine RW.op1 rfl (runs_extract rfl rfl) ?_
      refine RW.op1 rfl (runs_extract rfl rfl) ?_
      refine RW.op1 rfl (runs_assign rfl) ?_
      refine RW.op1 rfl (runs_assign rfl) ?_
      refine RW.done ?_
      refine AQ.next ?_
      refine CW.seq ?_
      -- region 13
      refine CW.region ?_
      refine RW.op1 rfl (runs_move rfl) ?_
      refine RW.op1 rfl (runs_addS (b := strOf [37, 52]) rfl rfl (by omega)) ?_
      rw [strOf_app]
      have hsz2 := strOf_size (sB ++ [37, 52])
      rw [List.length_append, show ([37, 52] : List UInt8).length = 2 from rfl] at hsz2
      refine RW.call rfl call11 rfl rfl (decode_spec hst (strOf (sB ++ [37, 52])) (by omega)) ?_
      rintro e w ⟨I3, hI3, rfl, hstn⟩
      clear hst
      have hst := hstn
      clear hstn
      rw [strOf_toList, hd2]
      dsimp only [Option.getD, Option.isSome]
      replace hb1 := hb1.mono hI3
      replace hle := hle.trans hI3
      refine ⟨_, rfl, ?_⟩
      refine RW.op1 rfl (runs_move rfl) ?_
      refine RW.op1 rfl (runs_extract rfl rfl) ?_
      refine RW.op1 rfl (runs_extract rfl rfl) ?_
      refine RW.op1 rfl (runs_assign rfl) ?_
      refine RW.op1 rfl (runs_assign rfl) ?_
      refine RW.done ?_
      refine AQ.next ?_
      refine CW.seq ?_
      -- region 14
      refine CW.region ?_
      refine RW.op1 rfl (runs_move rfl) ?_
      refine RW.op1 rfl (runs_addS (a := strOf [120]) rfl rfl (by omega)) ?_
      rw [strOf_app]
      have hsz3 := strOf_size ([120] ++ sB)
      rw [List.length_append, List.length_singleton] at hsz3
      refine RW.op1 rfl (runs_addS (b := strOf [121]) rfl rfl (by omega)) ?_
      rw [strOf_app]
      have hsz4 := strOf_size ([120] ++ sB ++ [121])
      rw [List.length_append, List.length_append, List.length_singleton, List.length_singleton] at hsz4
      refine RW.call rfl call11 rfl rfl (decode_spec hst (strOf ([120] ++ sB ++ [121])) (by omega)) ?_
      rintro e w ⟨I4, hI4, rfl, hstn⟩
      clear hst
      have hst := hstn
      clear hstn
      rw [strOf_toList, hd3]
      dsimp only [Option.getD, Option.isSome]
      replace hb1 := hb1.mono hI4
      replace hle := hle.trans hI4
      refine ⟨_, rfl, ?_⟩
      refine RW.op1 rfl (runs_move rfl) ?_
      refine RW.op1 rfl (runs_extract rfl rfl) ?_
      refine RW.op1 rfl (runs_extract rfl rfl) ?_
      refine RW.op1 rfl (runs_assign rfl) ?_
      refine RW.op1 rfl (runs_assign rfl) ?_
      refine RW.done ?_
      refine AQ.next ?_
      refine CW.seq ?_
      -- region 15
      refine CW.region ?_
      refine RW.op1 rfl (runs_move rfl) ?_
      refine RW.op1 rfl (runs_move rfl) ?_
      have hk86 := (show true = true from rfl)
      refine RW.on_guard rfl rfl rfl rfl hk86 ?_
      refine RW.op1 rfl (runs_move rfl) ?_
      refine RW.on_guard rfl rfl rfl rfl hk86 ?_
      refine RW.op1 rfl (runs_move rfl) ?_
      refine RW.on_guard rfl rfl rfl rfl hk86 ?_
      refine RW.op1 rfl (RdB.string Try.underlying25 Try.underlying5 Try.underlying9 rfl hb1 hst) ?_
      refine RW.on_guard rfl rfl rfl rfl hk86 ?_
      refine RW.op1 rfl (runs_eqS rfl rfl) ?_
      refine RW.op1 rfl (runs_pick_true rfl hk86 rfl) ?_
      refine RW.op1 rfl (runs_move rfl) ?_
      have hk92 := (show ((strOf b1).toList == (strOf b1).toList) = true from beq_self_list _)
      refine RW.on_guard rfl rfl rfl rfl hk92 ?_
      refine RW.op1 rfl (runs_move rfl) ?_
      refine RW.on_guard rfl rfl rfl rfl hk92 ?_
      refine RW.op1 rfl (runs_not rfl) ?_
      refine RW.op1 rfl (runs_pick_true rfl hk92 rfl) ?_
      refine RW.op1 rfl (runs_move rfl) ?_
      have hk96 := (show (!false) = true from rfl)
      refine RW.on_guard rfl rfl rfl rfl hk96 ?_
      refine RW.op1 rfl (runs_move rfl) ?_
      refine RW.on_guard rfl rfl rfl rfl hk96 ?_
      refine RW.op1 rfl (runs_not rfl) ?_
      refine RW.op1 rfl (runs_pick_true rfl hk96 rfl) ?_
      refine RW.op1 rfl (runs_move rfl) ?_
      have hk100 := (show (!false) = true from rfl)
      refine RW.on_guard rfl rfl rfl rfl hk100 ?_
      refine RW.op1 rfl (runs_move rfl) ?_
      refine RW.op1 rfl (runs_pick_true rfl hk100 rfl) ?_
      refine RW.op1 rfl (runs_move rfl) ?_
      have hk103 := (show true = true from rfl)
      refine RW.on_guard rfl rfl rfl rfl hk103 ?_
      refine RW.op1 rfl (runs_move rfl) ?_
      refine RW.on_guard rfl rfl rfl rfl hk103 ?_
      refine RW.op1 rfl (runs_move rfl) ?_
      refine RW.on_guard rfl rfl rfl rfl hk103 ?_
      refine RW.op1 rfl (runs_addS (a := strOf [120]) rfl rfl (by rw [strOf_size, strOf_size]; show 1 + b1.length ≤ _; omega)) ?_
      rw [strOf_app]
      refine RW.on_guard rfl rfl rfl rfl hk103 ?_
      refine RW.op1 rfl (runs_addS (b := strOf [121]) rfl rfl (by rw [strOf_size, strOf_size]; simp only [List.length_append, List.length_cons, List.length_nil]; omega)) ?_
      rw [strOf_app]
      refine RW.on_guard rfl rfl rfl rfl hk103 ?_
      refine RW.op1 rfl (runs_eqS rfl rfl) ?_
      refine RW.op1 rfl (runs_pick_true rfl hk103 rfl) ?_
      refine RW.op1 rfl (runs_move rfl) ?_
      have hk110 := (show ((strOf ([120] ++ b1 ++ [121])).toList == (strOf ([120] ++ b1 ++ [121])).toList) = true from beq_self_list _)
      refine RW.on_guard rfl rfl rfl rfl hk110 ?_
      refine RW.op1 rfl (runs_move rfl) ?_
      refine RW.on_guard rfl rfl rfl rfl hk110 ?_
      refine RW.call rfl call8 rfl rfl (encode_spec hst (strOf sB) (by omega)) ?_
      rintro e w ⟨I5, hI5, rfl, hstn⟩
      clear hst
      have hst := hstn
      clear hstn
      rw [strOf_toList, he0]
      replace hb1 := hb1.mono hI5
      replace hle := hle.trans hI5
      refine ⟨_, rfl, ?_⟩
      refine RW.on_guard rfl rfl rfl rfl hk110 ?_
      refine RW.op1 rfl (runs_move rfl) ?_
      refine RW.on_guard rfl rfl rfl rfl hk110 ?_
      refine RW.op1 rfl (runs_eqS rfl rfl) ?_
      refine RW.op1 rfl (runs_pick_true rfl hk110 rfl) ?_
      refine RW.op1 rfl (runs_move rfl) ?_
      have hk116 := (show ((strOf sB).toList == (strOf sB).toList) = true from beq_self_list _)
      refine RW.on_guard rfl rfl rfl rfl hk116 ?_
      refine RW.call rfl call10 rfl rfl (wakes06_spec hst) ?_
      rintro e w ⟨I6, hI6, rfl, hstn⟩
      clear hst
      have hst := hstn
      clear hstn
      replace hb1 := hb1.mono hI6
      replace hle := hle.trans hI6
      refine ⟨_, rfl, ?_⟩
      refine RW.op1 rfl (runs_pick_true rfl hk116 rfl) ?_
      refine RW.op1 rfl (runs_assign rfl) ?_
      refine RW.done ?_
      refine AQ.next ?_
      refine CW.ret ?_
      refine AQ.ret1 rfl rfl ?_
      exact ⟨rfl, _, hle, hst⟩
    · have hcb24 := hc24
      try simp only [decide_eq_true_eq, decide_eq_false_iff_not] at hc24
      refine CW.skip ?_
      refine AQ.next ?_
      refine CW.seq ?_
      -- region 7
      refine CW.region ?_
      refine RW.op1 rfl (runs_move rfl) ?_
      refine RW.done ?_
      refine AQ.next ?_
      refine CW.cond rfl (fun hc27 => ?_) (fun hc27 => ?_)
      · have hcb27 := hc27
        try simp only [decide_eq_true_eq, decide_eq_false_iff_not] at hc27
        subst hc27
        -- region 8
        refine CW.draw (fun _ => True) (.q 0 (.q 1 (.q 2 (.q 3 (.q 4 (.q 5 (.q 6 (.q 7 (.q 8 (.q 9 (.q 10 (.q 11 (.q 12 (.q 13 (.q 14 (.q 15 (.q 16 .nil))))))))))))))))) follows (by kernel_rfl) trivial ?_
        replace hst := hst.draw
        refine DRW.q rfl rfl (fun w' hF => runs_move rfl) ?_
        refine DRW.q rfl rfl (fun w' hF => runs_move rfl) ?_
        refine DRW.q rfl rfl (fun w' hF => runs_shrE (n := 4) rfl rfl (by decide)) ?_
        rw [show ((c.toNat : Nat) : Int) / 2 ^ 4 = ((c.toNat / 16 : Nat) : Int) from rfl]
        refine DRW.q rfl rfl (fun w' hF => runs_move rfl) ?_
        refine DRW.q rfl rfl (fun w' hF => runs_shrE (n := 4) rfl rfl (by decide)) ?_
        rw [show ((c.toNat : Nat) : Int) / 2 ^ 4 = ((c.toNat / 16 : Nat) : Int) from rfl]
        refine DRW.q rfl rfl (fun w' hF => runs_addW rfl rfl) ?_
        refine DRW.q rfl rfl (fun w' hF => runs_lowSl (n := c.toNat / 16) Try.underlying9 rfl rfl rfl rfl (by rw [IntKind.wrap_u8]; omega) (by omega)) ?_
        refine DRW.q rfl rfl (fun w' hF => runs_addS rfl rfl (by rw [strOf_size]; show 1 + 1 ≤ _; omega)) ?_
        rw [show (⟨#[37]⟩ : ByteArray) ++ strOf [digT true (c.toNat / 16)] = strOf [37, digT true (c.toNat / 16)] from strOf_app [37] _]
        refine DRW.q rfl rfl (fun w' hF => runs_move rfl) ?_
        refine DRW.q rfl rfl (fun w' hF => runs_and rfl rfl) ?_
        rw [and15]
        refine DRW.q rfl rfl (fun w' hF => runs_move rfl) ?_
        refine DRW.q rfl rfl (fun w' hF => runs_and rfl rfl) ?_
        rw [and15]
        refine DRW.q rfl rfl (fun w' hF => runs_addW rfl rfl) ?_
        refine DRW.q rfl rfl (fun w' hF => runs_lowSl (n := c.toNat % 16) Try.underlying9 rfl rfl rfl rfl (by rw [IntKind.wrap_u8]; omega) (by omega)) ?_
        refine DRW.q rfl rfl (fun w' hF => runs_addS rfl rfl (by rw [strOf_size, strOf_size]; show 2 + 1 ≤ _; omega)) ?_
        rw [strOf_app, show [37, digT true (c.toNat / 16)] ++ [digT true (c.toNat % 16)] = pctS true c from rfl]
        have hz3 := strOf_size (pctS true c)
        have hz4 : (pctS true c).length = 3 := rfl
        refine DRW.q rfl rfl (fun w' hF => runs_addS rfl rfl (by omega)) ?_
        rw [strOf_app, ← hft]
        refine DRW.q rfl rfl (fun w' hF => runs_assign rfl) ?_
        refine DRW.done ?_
        refine AQ.block_normal ?_
        refine AQ.next ?_
        -- region 10
        refine CW.region ?_
        refine RW.op1 rfl (runs_add rfl rfl (by omega)) ?_
        refine RW.op1 rfl (runs_move rfl) ?_
        refine RW.done ?_
        exact AQ.again (x := k) (k + 1) ⟨hst, by omega, by omega⟩ ⟨rfl, rfl, rfl, rfl, rfl, rfl, trivial⟩ (by omega)
      · have hcb27 := hc27
        try simp only [decide_eq_true_eq, decide_eq_false_iff_not] at hc27
        subst hc27
        -- region 9
        refine CW.draw (fun _ => True) (.q 0 (.q 1 (.q 2 (.q 3 (.q 4 (.q 5 (.q 6 (.q 7 (.q 8 (.q 9 (.q 10 (.q 11 (.q 12 (.q 13 (.q 14 (.q 15 (.q 16 .nil))))))))))))))))) follows (by kernel_rfl) trivial ?_
        replace hst := hst.draw
        refine DRW.q rfl rfl (fun w' hF => runs_move rfl) ?_
        refine DRW.q rfl rfl (fun w' hF => runs_move rfl) ?_
        refine DRW.q rfl rfl (fun w' hF => runs_shrE (n := 4) rfl rfl (by decide)) ?_
        rw [show ((c.toNat : Nat) : Int) / 2 ^ 4 = ((c.toNat / 16 : Nat) : Int) from rfl]
        refine DRW.q rfl rfl (fun w' hF => runs_move rfl) ?_
        refine DRW.q rfl rfl (fun w' hF => runs_shrE (n := 4) rfl rfl (by decide)) ?_
        rw [show ((c.toNat : Nat) : Int) / 2 ^ 4 = ((c.toNat / 16 : Nat) : Int) from rfl]
        refine DRW.q rfl rfl (fun w' hF => runs_addW rfl rfl) ?_
        refine DRW.q rfl rfl (fun w' hF => runs_hexSl (n := c.toNat / 16) Try.underlying9 rfl rfl rfl rfl (by rw [IntKind.wrap_u8]; omega) (by omega)) ?_
        refine DRW.q rfl rfl (fun w' hF => runs_addS rfl rfl (by rw [strOf_size]; show 1 + 1 ≤ _; omega)) ?_
        rw [show (⟨#[37]⟩ : ByteArray) ++ strOf [hexD (c.toNat / 16)] = strOf [37, hexD (c.toNat / 16)] from strOf_app [37] _]
        refine DRW.q rfl rfl (fun w' hF => runs_move rfl) ?_
        refine DRW.q rfl rfl (fun w' hF => runs_and rfl rfl) ?_
        rw [and15]
        refine DRW.q rfl rfl (fun w' hF => runs_move rfl) ?_
        refine DRW.q rfl rfl (fun w' hF => runs_and rfl rfl) ?_
        rw [and15]
        refine DRW.q rfl rfl (fun w' hF => runs_addW rfl rfl) ?_
        refine DRW.q rfl rfl (fun w' hF => runs_hexSl (n := c.toNat % 16) Try.underlying9 rfl rfl rfl rfl (by rw [IntKind.wrap_u8]; omega) (by omega)) ?_
        refine DRW.q rfl rfl (fun w' hF => runs_addS rfl rfl (by rw [strOf_size, strOf_size]; show 2 + 1 ≤ _; omega)) ?_
        rw [strOf_app, show [37, hexD (c.toNat / 16)] ++ [hexD (c.toNat % 16)] = pctS false c from rfl]
        have hz3 := strOf_size (pctS false c)
        have hz4 : (pctS false c).length = 3 := rfl
        refine DRW.q rfl rfl (fun w' hF => runs_addS rfl rfl (by omega)) ?_
        rw [strOf_app, ← hft]
        refine DRW.q rfl rfl (fun w' hF => runs_assign rfl) ?_
        refine DRW.done ?_
        refine AQ.block_normal ?_
        refine AQ.next ?_
        -- region 10
        refine CW.region ?_
        refine RW.op1 rfl (runs_add rfl rfl (by omega)) ?_
        refine RW.op1 rfl (runs_move rfl) ?_
        refine RW.done ?_
        exact AQ.again (x := k) (k + 1) ⟨hst, by omega, by omega⟩ ⟨rfl, rfl, rfl, rfl, rfl, rfl, trivial⟩ (by omega)
  · have hcb19 := hc19
    try simp only [decide_eq_true_eq, decide_eq_false_iff_not] at hc19
    obtain ⟨v1, b1, hb1, hl1, e1, e2⟩ : ∃ v1 b1, RdB I v1 b1 ∧ b1.length ≤ 40 ∧ v0 = v1 ∧ bs.take k = b1 := ⟨v0, bs, hv0, by omega, rfl, List.take_of_length_le (by omega)⟩
    rw [e1, e2]
    refine CW.exit ?_
    refine AQ.past_exit ?_
    refine AQ.past_exit ?_
    refine AQ.block_hit ?_
    refine AQ.next ?_
    refine CW.seq ?_
    -- region 11
    refine CW.region ?_
    obtain ⟨hd0, hd1, hd2, hd3, he0⟩ := bytes_laws (small := small) b1
    have hsl := pctS_len (small := small) b1
    generalize (b1.flatMap (pctS small)) = sB at hd0 hd1 hd2 hd3 he0 hsl ⊢
    have hsz := strOf_size sB
    have hs1 : (strOf [37]).size = 1 := rfl
    have hs2 : (strOf [37, 52]).size = 2 := rfl
    have hs3 : (strOf [120]).size = 1 := rfl
    have hs4 : (strOf [121]).size = 1 := rfl
    refine RW.op1 rfl (runs_move rfl) ?_
    refine RW.call rfl call11 rfl rfl (decode_spec hst (strOf sB) (by omega)) ?_
    rintro e w ⟨I7, hI7, rfl, hstn⟩
    clear hst
    have hst := hstn
    clear hstn
    rw [strOf_toList, hd0]
    dsimp only [Option.getD, Option.isSome]
    replace hb1 := hb1.mono hI7
    replace hle := hle.trans hI7
    refine ⟨_, rfl, ?_⟩
    refine RW.op1 rfl (runs_move rfl) ?_
    refine RW.op1 rfl (runs_extract rfl rfl) ?_
    refine RW.op1 rfl (runs_extract rfl rfl) ?_
    refine RW.op1 rfl (runs_assign rfl) ?_
    refine RW.op1 rfl (runs_assign rfl) ?_
    refine RW.done ?_
    refine AQ.next ?_
    refine CW.seq ?_
    -- region 12
    refine CW.region ?_
    refine RW.op1 rfl (runs_move rfl) ?_
    refine RW.op1 rfl (runs_addS (b := strOf [37]) rfl rfl (by omega)) ?_
    rw [strOf_app]
    have hsz1 := strOf_size (sB ++ [37])
    rw [List.length_append, List.length_singleton] at hsz1
    refine RW.call rfl call11 rfl rfl (decode_spec hst (strOf (sB ++ [37])) (by omega)) ?_
    rintro e w ⟨I8, hI8, rfl, hstn⟩
    clear hst
    have hst := hstn
    clear hstn
    rw [strOf_toList, hd1]
    dsimp only [Option.getD, Option.isSome]
    replace hb1 := hb1.mono hI8
    replace hle := hle.trans hI8
    refine ⟨_, rfl, ?_⟩
    refine RW.op1 rfl (runs_move rfl) ?_
    refine RW.op1 rfl (runs_extract rfl rfl) ?_
    refine RW.op1 rfl (runs_extract rfl rfl) ?_
    refine RW.op1 rfl (runs_assign rfl) ?_
    refine RW.op1 rfl (runs_assign rfl) ?_
    refine RW.done ?_
    refine AQ.next ?_
    refine CW.seq ?_
    -- region 13
    refine CW.region ?_
    refine RW.op1 rfl (runs_move rfl) ?_
    refine RW.op1 rfl (runs_addS (b := strOf [37, 52]) rfl rfl (by omega)) ?_
    rw [strOf_app]
    have hsz2 := strOf_size (sB ++ [37, 52])
    rw [List.length_append, show ([37, 52] : List UInt8).length = 2 from rfl] at hsz2
    refine RW.call rfl call11 rfl rfl (decode_spec hst (strOf (sB ++ [37, 52])) (by omega)) ?_
    rintro e w ⟨I9, hI9, rfl, hstn⟩
    clear hst
    have hst := hstn
    clear hstn
    rw [strOf_toList, hd2]
    dsimp only [Option.getD, Option.isSome]
    replace hb1 := hb1.mono hI9
    replace hle := hle.trans hI9
    refine ⟨_, rfl, ?_⟩
    refine RW.op1 rfl (runs_move rfl) ?_
    refine RW.op1 rfl (runs_extract rfl rfl) ?_
    refine RW.op1 rfl (runs_extract rfl rfl) ?_
    refine RW.op1 rfl (runs_assign rfl) ?_
    refine RW.op1 rfl (runs_assign rfl) ?_
    refine RW.done ?_
    refine AQ.next ?_
    refine CW.seq ?_
    -- region 14
    refine CW.region ?_
    refine RW.op1 rfl (runs_move rfl) ?_
    refine RW.op1 rfl (runs_addS (a := strOf [120]) rfl rfl (by omega)) ?_
    rw [strOf_app]
    have hsz3 := strOf_size ([120] ++ sB)
    rw [List.length_append, List.length_singleton] at hsz3
    refine RW.op1 rfl (runs_addS (b := strOf [121]) rfl rfl (by omega)) ?_
    rw [strOf_app]
    have hsz4 := strOf_size ([120] ++ sB ++ [121])
    rw [List.length_append, List.length_append, List.length_singleton, List.length_singleton] at hsz4
    refine RW.call rfl call11 rfl rfl (decode_spec hst (strOf ([120] ++ sB ++ [121])) (by omega)) ?_
    rintro e w ⟨I10, hI10, rfl, hstn⟩
    clear hst
    have hst := hstn
    clear hstn
    rw [strOf_toList, hd3]
    dsimp only [Option.getD, Option.isSome]
    replace hb1 := hb1.mono hI10
    replace hle := hle.trans hI10
    refine ⟨_, rfl, ?_⟩
    refine RW.op1 rfl (runs_move rfl) ?_
    refine RW.op1 rfl (runs_extract rfl rfl) ?_
    refine RW.op1 rfl (runs_extract rfl rfl) ?_
    refine RW.op1 rfl (runs_assign rfl) ?_
    refine RW.op1 rfl (runs_assign rfl) ?_
    refine RW.done ?_
    refine AQ.next ?_
    refine CW.seq ?_
    -- region 15
    refine CW.region ?_
    refine RW.op1 rfl (runs_move rfl) ?_
    refine RW.op1 rfl (runs_move rfl) ?_
    have hk86 := (show true = true from rfl)
    refine RW.on_guard rfl rfl rfl rfl hk86 ?_
    refine RW.op1 rfl (runs_move rfl) ?_
    refine RW.on_guard rfl rfl rfl rfl hk86 ?_
    refine RW.op1 rfl (runs_move rfl) ?_
    refine RW.on_guard rfl rfl rfl rfl hk86 ?_
    refine RW.op1 rfl (RdB.string Try.underlying25 Try.underlying5 Try.underlying9 rfl hb1 hst) ?_
    refine RW.on_guard rfl rfl rfl rfl hk86 ?_
    refine RW.op1 rfl (runs_eqS rfl rfl) ?_
    refine RW.op1 rfl (runs_pick_true rfl hk86 rfl) ?_
    refine RW.op1 rfl (runs_move rfl) ?_
    have hk92 := (show ((strOf b1).toList == (strOf b1).toList) = true from beq_self_list _)
    refine RW.on_guard rfl rfl rfl rfl hk92 ?_
    refine RW.op1 rfl (runs_move rfl) ?_
    refine RW.on_guard rfl rfl rfl rfl hk92 ?_
    refine RW.op1 rfl (runs_not rfl) ?_
    refine RW.op1 rfl (runs_pick_true rfl hk92 rfl) ?_
    refine RW.op1 rfl (runs_move rfl) ?_
    have hk96 := (show (!false) = true from rfl)
    refine RW.on_guard rfl rfl rfl rfl hk96 ?_
    refine RW.op1 rfl (runs_move rfl) ?_
    refine RW.on_guard rfl rfl rfl rfl hk96 ?_
    refine RW.op1 rfl (runs_not rfl) ?_
    refine RW.op1 rfl (runs_pick_true rfl hk96 rfl) ?_
    refine RW.op1 rfl (runs_move rfl) ?_
    have hk100 := (show (!false) = true from rfl)
    refine RW.on_guard rfl rfl rfl rfl hk100 ?_
    refine RW.op1 rfl (runs_move rfl) ?_
    refine RW.op1 rfl (runs_pick_true rfl hk100 rfl) ?_
    refine RW.op1 rfl (runs_move rfl) ?_
    have hk103 := (show true = true from rfl)
    refine RW.on_guard rfl rfl rfl rfl hk103 ?_
    refine RW.op1 rfl (runs_move rfl) ?_
    refine RW.on_guard rfl rfl rfl rfl hk103 ?_
    refine RW.op1 rfl (runs_move rfl) ?_
    refine RW.on_guard rfl rfl rfl rfl hk103 ?_
    refine RW.op1 rfl (runs_addS (a := strOf [120]) rfl rfl (by rw [strOf_size, strOf_size]; show 1 + b1.length ≤ _; omega)) ?_
    rw [strOf_app]
    refine RW.on_guard rfl rfl rfl rfl hk103 ?_
    refine RW.op1 rfl (runs_addS (b := strOf [121]) rfl rfl (by rw [strOf_size, strOf_size]; simp only [List.length_append, List.length_cons, List.length_nil]; omega)) ?_
    rw [strOf_app]
    refine RW.on_guard rfl rfl rfl rfl hk103 ?_
    refine RW.op1 rfl (runs_eqS rfl rfl) ?_
    refine RW.op1 rfl (runs_pick_true rfl hk103 rfl) ?_
    refine RW.op1 rfl (runs_move rfl) ?_
    have hk110 := (show ((strOf ([120] ++ b1 ++ [121])).toList == (strOf ([120] ++ b1 ++ [121])).toList) = true from beq_self_list _)
    refine RW.on_guard rfl rfl rfl rfl hk110 ?_
    refine RW.op1 rfl (runs_move rfl) ?_
    refine RW.on_guard rfl rfl rfl rfl hk110 ?_
    refine RW.call rfl call8 rfl rfl (encode_spec hst (strOf sB) (by omega)) ?_
    rintro e w ⟨I11, hI11, rfl, hstn⟩
    clear hst
    have hst := hstn
    clear hstn
    rw [strOf_toList, he0]
    replace hb1 := hb1.mono hI11
    replace hle := hle.trans hI11
    refine ⟨_, rfl, ?_⟩
    refine RW.on_guard rfl rfl rfl rfl hk110 ?_
    refine RW.op1 rfl (runs_move rfl) ?_
    refine RW.on_guard rfl rfl rfl rfl hk110 ?_
    refine RW.op1 rfl (runs_eqS rfl rfl) ?_
    refine RW.op1 rfl (runs_pick_true rfl hk110 rfl) ?_
    refine RW.op1 rfl (runs_move rfl) ?_
    have hk116 := (show ((strOf sB).toList == (strOf sB).toList) = true from beq_self_list _)
    refine RW.on_guard rfl rfl rfl rfl hk116 ?_
    refine RW.call rfl call10 rfl rfl (wakes06_spec hst) ?_
    rintro e w ⟨I12, hI12, rfl, hstn⟩
    clear hst
    have hst := hstn
    clear hstn
    replace hb1 := hb1.mono hI12
    replace hle := hle.trans hI12
    refine ⟨_, rfl, ?_⟩
    refine RW.op1 rfl (runs_pick_true rfl hk116 rfl) ?_
    refine RW.op1 rfl (runs_assign rfl) ?_
    refine RW.done ?_
    refine AQ.next ?_
    refine CW.ret ?_
    refine AQ.ret1 rfl rfl ?_
    exact ⟨rfl, _, hle, hst⟩
end Go.Proofs.YthblbockghgchaaX
