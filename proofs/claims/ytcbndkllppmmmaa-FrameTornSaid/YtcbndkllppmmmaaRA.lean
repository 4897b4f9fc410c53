/- A record that is torn over an older one: the walk. -/
import Derived.Test.YtcbndkllppmmmaaT
import Derived.Test.YtcbndkllppmmmaaR9
namespace Go.Proofs.YtcbndkllppmmmaaX
set_option linter.unusedVariables false
set_option linter.unusedSimpArgs false
open Go Go.RowKit Go.Proofs

set_option maxRecDepth 100000 in
set_option maxHeartbeats 1000000 in
theorem torn_spec {w0 w : World} {I : Imm} {L : Own} (hst : St w0 w I L) (n m size other : Int) (hn : i64ok n) (hm : i64ok m) (hsz : i64ok size) (hot : i64ok other) {vk : Value} {ks : List Int} (hk0 : RdI I vk ks) :
    Calls Try.prog 7 #[.int .i64 n, .int .i64 m, .int .i64 size, .int .i64 other, vk] w fun e w' => e = .returned (.bool true) ∧ ∃ I', I.le I' ∧ St w0 w' I' L := by
  refine enter Try.func7 rfl (N := 127) rfl rfl ?_
  simp only [List.zipIdx_cons, List.zipIdx_nil, List.map_cons, List.map_nil, Nat.zero_add, Nat.reduceAdd]
  have hle := Imm.le.refl I
  refine CW.seq ?_
  -- region 0
  refine CW.region ?_
  refine RW.op1 rfl (runs_assign rfl) ?_
  refine RW.done ?_
  refine AQ.next ?_
  refine CW.seq ?_
  -- region 1
  refine CW.region ?_
  refine RW.call rfl call10 rfl rfl (new_spec hst 12) ?_
  rintro e w ⟨_, Ld1, rfl, _, hstn, hd1, a1, rfl⟩
  clear hst
  have hst := hstn
  clear hstn
  have hsl : (newR 12).secs.length = 12 := rfl
  refine ⟨_, rfl, ?_⟩
  refine RW.op1 rfl (runs_assign rfl) ?_
  refine RW.done ?_
  refine AQ.next ?_
  refine CW.seq ?_
  refine CW.seq ?_
  -- region 2
  refine CW.region ?_
  refine RW.op1 rfl (runs_move rfl) ?_
  refine RW.op1 rfl (runs_eq_nilptr Try.underlying26 rfl) ?_
  refine RW.done ?_
  refine AQ.next ?_
  refine CW.cond rfl (fun hc => absurd hc (by rw [(show (Option.isNone (some a1)) = false from rfl)]; decide)) (fun hc => ?_)
  refine CW.skip ?_
  refine AQ.next ?_
  refine CW.seq ?_
  -- region 4
  refine CW.region ?_
  refine RW.op1 rfl (runs_move rfl) ?_
  refine RW.op1 rfl (runs_move rfl) ?_
  refine RW.call rfl call13 rfl rfl (within_spec hst (v := size) (n := 100) (hsz) (by unfold i64ok; omega)) ?_
  rintro e w ⟨rfl, hstn⟩
  clear hst
  have hst := hstn
  clear hstn
  have hw29 := within_range (size) (100)
  generalize hx29 : within (size) (100) = x29 at *
  refine ⟨_, rfl, ?_⟩
  refine RW.call rfl call17 rfl rfl (bytes_spec hst n x29 hn (by omega)) ?_
  rintro e w ⟨I3, va, hI3, rfl, hstn, hA⟩
  clear hst
  have hst := hstn
  clear hstn
  have hal : (bytesOf n x29).length = x29.toNat := bytesOf_length _ _
  generalize bytesOf n x29 = ba at hA hal
  have hna := need_room ba.length
  replace hk0 := hk0.mono hI3
  replace hle := hle.trans hI3
  refine ⟨_, rfl, ?_⟩
  refine RW.op1 rfl (runs_move rfl) ?_
  refine RW.op1 rfl (runs_move rfl) ?_
  refine RW.call rfl call13 rfl rfl (within_spec hst (v := other) (n := 100) (hot) (by unfold i64ok; omega)) ?_
  rintro e w ⟨rfl, hstn⟩
  clear hst
  have hst := hstn
  clear hstn
  have hw33 := within_range (other) (100)
  generalize hx33 : within (other) (100) = x33 at *
  refine ⟨_, rfl, ?_⟩
  refine RW.call rfl call17 rfl rfl (bytes_spec hst m x33 hm (by omega)) ?_
  rintro e w ⟨I5, vb, hI5, rfl, hstn, hB⟩
  clear hst
  have hst := hstn
  clear hstn
  have hbl : (bytesOf m x33).length = x33.toNat := bytesOf_length _ _
  generalize bytesOf m x33 = bb at hB hbl
  have hnb := need_room bb.length
  replace hk0 := hk0.mono hI5
  replace hA := hA.mono hI5
  replace hle := hle.trans hI5
  refine ⟨_, rfl, ?_⟩
  refine RW.op1 rfl (runs_assign rfl) ?_
  refine RW.op1 rfl (runs_assign rfl) ?_
  refine RW.done ?_
  refine AQ.next ?_
  refine CW.seq ?_
  refine CW.seq ?_
  -- region 5
  refine CW.region ?_
  refine RW.op1 rfl (runs_move rfl) ?_
  refine RW.op1 rfl (runs_buildF (cells := [_, _]) bz32 rfl rfl rfl rfl rfl) ?_
  refine RW.op1 rfl (runs_move rfl) ?_
  refine RW.call rfl call11 rfl rfl (fwrite_spec hd1 hst 2 1 4 (by unfold i64ok; decide) (b := ba) hA (by omega) (Nat.zero_le _)) ?_
  rintro e w ⟨I6, Ld2, S2, nx, er, hI6, rfl, hstn, hd2, hfw⟩
  clear hst
  have hst := hstn
  clear hstn
  obtain ⟨rfl, rfl, rfl⟩ := fw_ok (S := newR 12) ⟨rfl, rfl⟩ (by decide) (by omega) (by decide) (by rw [hsl]; omega) hfw
  replace hk0 := hk0.mono hI6
  replace hA := hA.mono hI6
  replace hB := hB.mono hI6
  replace hle := hle.trans hI6
  refine ⟨_, rfl, ?_⟩
  refine RW.op1 rfl (runs_move rfl) ?_
  refine RW.op1 rfl (runs_extract rfl rfl) ?_
  refine RW.op1 rfl (runs_extract rfl rfl) ?_
  refine RW.op1 rfl (runs_assign rfl) ?_
  refine RW.op1 rfl (runs_assign rfl) ?_
  refine RW.done ?_
  refine AQ.next ?_
  refine CW.seq ?_
  -- region 6
  refine CW.region ?_
  refine RW.op1 rfl (runs_move rfl) ?_
  refine RW.op1 rfl (runs_neI rfl rfl) ?_
  refine RW.op1 rfl (runs_move rfl) ?_
  have hk44 := (show decide ((0 : Int) ≠ 0) = false by decide)
  refine RW.on_guard rfl rfl rfl rfl hk44 ?_
  refine RW.op1 rfl (runs_move rfl) ?_
  refine RW.on_guard rfl rfl rfl rfl hk44 ?_
  refine RW.call rfl call27 rfl rfl (flush_spec hd2 hst) ?_
  rintro e w ⟨Ld3, rfl, hstn, hd3⟩
  clear hst
  have hst := hstn
  clear hstn
  rw [flush_old ba] at hd3 ⊢
  dsimp only at hd3 ⊢
  have hol := oldS_secs (a := ba) (by omega)
  refine ⟨_, rfl, ?_⟩
  refine RW.on_guard rfl rfl rfl rfl hk44 ?_
  refine RW.op1 rfl (runs_neI rfl rfl) ?_
  refine RW.op1 rfl (runs_pick_false rfl hk44 rfl) ?_
  refine RW.done ?_
  refine AQ.next ?_
  refine CW.cond rfl (fun hc => absurd hc (by decide)) (fun hc => ?_)
  refine CW.skip ?_
  refine AQ.next ?_
  refine CW.seq ?_
  refine CW.seq ?_
  -- region 8
  refine CW.region ?_
  refine RW.op1 rfl (runs_move rfl) ?_
  refine RW.op1 rfl (runs_buildF (cells := [_, _]) bz32 rfl rfl rfl rfl rfl) ?_
  refine RW.op1 rfl (runs_move rfl) ?_
  refine RW.call rfl call11 rfl rfl (fwrite_spec hd3 hst 2 2 4 (by unfold i64ok; decide) (b := bb) hB (by omega) (by rw [hol.2.1]; decide)) ?_
  rintro e w ⟨I8, Ld4, S4, nx4, er4, hI8, rfl, hstn, hd4, hfw4⟩
  clear hst
  have hst := hstn
  clear hstn
  obtain ⟨rfl, rfl, rfl⟩ := fw_ok (S := oldS ba) hol.2.2.1 (by decide) (by omega) (by decide) (by rw [hol.1]; omega) hfw4
  replace hd4 : DiskO _ (newS ba bb) Ld4 := hd4
  replace hk0 := hk0.mono hI8
  replace hA := hA.mono hI8
  replace hB := hB.mono hI8
  replace hle := hle.trans hI8
  refine ⟨_, rfl, ?_⟩
  refine RW.op1 rfl (runs_move rfl) ?_
  refine RW.op1 rfl (runs_extract rfl rfl) ?_
  refine RW.op1 rfl (runs_extract rfl rfl) ?_
  refine RW.op1 rfl (runs_assign rfl) ?_
  refine RW.op1 rfl (runs_assign rfl) ?_
  refine RW.done ?_
  refine AQ.next ?_
  refine CW.seq ?_
  -- region 9
  refine CW.region ?_
  refine RW.op1 rfl (runs_move rfl) ?_
  refine RW.op1 rfl (runs_neI rfl rfl) ?_
  refine RW.done ?_
  refine AQ.next ?_
  refine CW.cond rfl (fun hc => absurd hc (by decide)) (fun hc => ?_)
  refine CW.skip ?_
  refine AQ.next ?_
  refine CW.seq ?_
  -- region 11
  refine CW.region ?_
  refine RW.op1 rfl (runs_assign rfl) ?_
  refine RW.done ?_
  refine AQ.next ?_
  refine CW.seq ?_
  refine CW.seq ?_
  -- region 12
  refine CW.region ?_
  refine RW.op1 rfl (runs_assign rfl) ?_
  refine RW.done ?_
  refine AQ.next ?_
  refine CW.block ?_
  -- loop 1
  refine CW.loop Nat (fun k w => St w0 w I8 (Ld4 ++ L) ∧ k ≤ needN bb.length) (fun k => [(4, vk), (11, .pointer (some a1)), (12, va), (13, vb), (18, .bool (allK ks k)), (19, .int .i64 (k : Nat))]) (fun k => needN bb.length - k) ⟨0, ⟨hst, Nat.zero_le _⟩, ⟨rfl, rfl, rfl, rfl, rfl, rfl, trivial⟩⟩ ?_
  rintro k w ⟨hstn, hk⟩
  clear hst
  have hst := hstn
  clear hstn
  refine CW.seq ?_
  refine CW.seq ?_
  -- region 13
  refine CW.region ?_
  refine RW.op1 rfl (runs_move rfl) ?_
  refine RW.op1 rfl (runs_move rfl) ?_
  refine RW.call rfl call9 rfl rfl (need_spec hst (bs := bb) hB (by omega)) ?_
  rintro e w ⟨rfl, hstn⟩
  clear hst
  have hst := hstn
  clear hstn
  refine ⟨_, rfl, ?_⟩
  refine RW.op1 rfl (runs_lss rfl rfl) ?_
  refine RW.done ?_
  refine AQ.next ?_
  refine CW.cond rfl (fun hc61 => ?_) (fun hc61 => ?_)
  · have hcb61 := hc61
    try simp only [decide_eq_true_eq, decide_eq_false_iff_not] at hc61
    skip
    refine CW.skip ?_
    refine AQ.next ?_
    refine CW.seq ?_
    refine CW.block ?_
    -- region 15
    refine CW.region ?_
    refine RW.op1 rfl (runs_move rfl) ?_
    refine RW.op1 rfl (runs_move rfl) ?_
    refine RW.split (t := 65) rfl (fun hb65 => ?_) (fun hb65 => ?_)
    · have hb65p := hb65
      try simp only [decide_eq_true_eq, decide_eq_false_iff_not] at hb65p
      refine RW.on_guard rfl rfl rfl rfl hb65 ?_
      refine RW.op1 rfl (runs_move rfl) ?_
      refine RW.on_guard rfl rfl rfl rfl hb65 ?_
      refine RW.op1 rfl (runs_move rfl) ?_
      refine RW.on_guard rfl rfl rfl rfl hb65 ?_
      refine RW.op1 rfl (RdL.len Try.underlying40 rfl hk0) ?_
      refine RW.on_guard rfl rfl rfl rfl hb65 ?_
      refine RW.op1 rfl (runs_lss rfl rfl) ?_
      refine RW.op1 rfl (runs_pick_true rfl hb65 rfl) ?_
      refine RW.op1 rfl (runs_move rfl) ?_
      refine RW.split (t := 71) rfl (fun hb71 => ?_) (fun hb71 => ?_)
      · have hb71p := hb71
        try simp only [decide_eq_true_eq, decide_eq_false_iff_not] at hb71p
        refine RW.on_guard rfl rfl rfl rfl hb71 ?_
        refine RW.op1 rfl (runs_move rfl) ?_
        refine RW.on_guard rfl rfl rfl rfl hb71 ?_
        refine RW.op1 rfl (runs_move rfl) ?_
        refine RW.on_guard rfl rfl rfl rfl hb71 ?_
        refine RW.op1 rfl (RdL.indexAddr Try.underlying40 ti3 (by decide) rfl rfl hk0 (by omega)) ?_
        refine RW.on_guard rfl rfl rfl rfl hb71 ?_
        refine RW.op1 rfl (runs_load1 sc3 rfl (hst.cell_imm (RdI.at hk0 (by omega) (by omega)))) ?_
        refine RW.on_guard rfl rfl rfl rfl hb71 ?_
        refine RW.op1 rfl (runs_eqI rfl rfl) ?_
        refine RW.op1 rfl (runs_pick_true rfl hb71 rfl) ?_
        refine RW.op1 rfl (runs_assign rfl) ?_
        refine RW.done ?_
        refine AQ.block_normal ?_
        refine AQ.next ?_
        -- region 14
        refine CW.region ?_
        refine RW.op1 rfl (runs_move rfl) ?_
        refine RW.op1 rfl (runs_add rfl rfl (by omega)) ?_
        refine RW.op1 rfl (runs_assign rfl) ?_
        refine RW.done ?_
        exact AQ.again (x := k) (k + 1) ⟨hst, by omega⟩ ⟨rfl, rfl, rfl, rfl, congrArg (fun z => some (Value.bool z)) (allK_tt hb65 hb71p), rfl, trivial⟩ (by omega)
      · have hb71p := hb71
        try simp only [decide_eq_true_eq, decide_eq_false_iff_not] at hb71p
        refine RW.off_guard rfl rfl rfl rfl hb71 ?_
        refine RW.off_guard rfl rfl rfl rfl hb71 ?_
        refine RW.off_guard rfl rfl rfl rfl hb71 ?_
        refine RW.off_guard rfl rfl rfl rfl hb71 ?_
        refine RW.off_guard rfl rfl rfl rfl hb71 ?_
        refine RW.op1 rfl (runs_pick_false rfl hb71 rfl) ?_
        refine RW.op1 rfl (runs_assign rfl) ?_
        refine RW.done ?_
        refine AQ.block_normal ?_
        refine AQ.next ?_
        -- region 14
        refine CW.region ?_
        refine RW.op1 rfl (runs_move rfl) ?_
        refine RW.op1 rfl (runs_add rfl rfl (by omega)) ?_
        refine RW.op1 rfl (runs_assign rfl) ?_
        refine RW.done ?_
        exact AQ.again (x := k) (k + 1) ⟨hst, by omega⟩ ⟨rfl, rfl, rfl, rfl, congrArg (fun z => some (Value.bool z)) (allK_tf hb71p), rfl, trivial⟩ (by omega)
    · have hb65p := hb65
      try simp only [decide_eq_true_eq, decide_eq_false_iff_not] at hb65p
      refine RW.off_guard rfl rfl rfl rfl hb65 ?_
      refine RW.off_guard rfl rfl rfl rfl hb65 ?_
      refine RW.off_guard rfl rfl rfl rfl hb65 ?_
      refine RW.off_guard rfl rfl rfl rfl hb65 ?_
      refine RW.op1 rfl (runs_pick_false rfl hb65 rfl) ?_
      refine RW.op1 rfl (runs_move rfl) ?_
      refine RW.off_guard rfl rfl rfl rfl rfl ?_
      refine RW.off_guard rfl rfl rfl rfl rfl ?_
      refine RW.off_guard rfl rfl rfl rfl rfl ?_
      refine RW.off_guard rfl rfl rfl rfl rfl ?_
      refine RW.off_guard rfl rfl rfl rfl rfl ?_
      refine RW.op1 rfl (runs_pick_false rfl rfl rfl) ?_
      refine RW.op1 rfl (runs_assign rfl) ?_
      refine RW.done ?_
      refine AQ.block_normal ?_
      refine AQ.next ?_
      -- region 14
      refine CW.region ?_
      refine RW.op1 rfl (runs_move rfl) ?_
      refine RW.op1 rfl (runs_add rfl rfl (by omega)) ?_
      refine RW.op1 rfl (runs_assign rfl) ?_
      refine RW.done ?_
      exact AQ.again (x := k) (k + 1) ⟨hst, by omega⟩ ⟨rfl, rfl, rfl, rfl, congrArg (fun z => some (Value.bool z)) (allK_f hb65), rfl, trivial⟩ (by omega)
  · have hcb61 := hc61
    try simp only [decide_eq_true_eq, decide_eq_false_iff_not] at hc61
    obtain rfl : k = needN bb.length := by omega
    refine CW.exit ?_
    refine AQ.past_exit ?_
    refine AQ.past_exit ?_
    refine AQ.block_hit ?_
    refine AQ.next ?_
    refine CW.seq ?_
    -- region 16
    refine CW.region ?_
    refine RW.op1 rfl (runs_move rfl) ?_
    refine RW.op1 rfl (runs_move rfl) ?_
    refine RW.call rfl call28 rfl rfl (crash_spec hd4 hst hk0) ?_
    rintro e w ⟨Ld5, rfl, hstn, hd5⟩
    clear hst
    have hst := hstn
    clear hstn
    replace hd5 : DiskO _ (tornS ba bb ks) Ld5 := hd5
    refine ⟨_, rfl, ?_⟩
    refine RW.done ?_
    refine AQ.next ?_
    refine CW.seq ?_
    -- region 17
    refine CW.region ?_
    refine RW.op1 rfl (runs_move rfl) ?_
    refine RW.call rfl call18 rfl rfl (fread_spec hd5 hst 2 12) ?_
    rintro e w ⟨I11, vG, re, rq, rb, rn, rer, hI11, rfl, hstn, hG, hfr⟩
    clear hst
    have hst := hstn
    clear hstn
    have hlaw := torn_law (a := ba) (b := bb) (by omega) (by omega) hfr
    replace hk0 := hk0.mono hI11
    replace hA := hA.mono hI11
    replace hB := hB.mono hI11
    replace hle := hle.trans hI11
    refine ⟨_, rfl, ?_⟩
    refine RW.op1 rfl (runs_move rfl) ?_
    refine RW.op1 rfl (runs_extract rfl rfl) ?_
    refine RW.op1 rfl (runs_extract rfl rfl) ?_
    refine RW.op1 rfl (runs_extract rfl rfl) ?_
    refine RW.op1 rfl (runs_extract rfl rfl) ?_
    refine RW.opE rfl (runs_alloc ti32 hst) ?_
    rintro _ w ⟨b12, rfl, hstn⟩
    clear hst
    have hst := hstn
    clear hstn
    first
      | refine RW.opE0 (runs_storeW ti32 rfl rfl hst (k := 0) rfl rfl rfl (NoFz.zero _) rfl) ?_
      | refine RW.opE0 (runs_storeP ti32 rfl rfl hst (k := 0) rfl rfl rfl (NoFz.zero _) rfl) ?_
      | refine RW.opE0 (runs_storeW ti32 rfl rfl hst (k := 1) rfl rfl rfl (NoFz.zero _) rfl) ?_
      | refine RW.opE0 (runs_storeP ti32 rfl rfl hst (k := 1) rfl rfl rfl (NoFz.zero _) rfl) ?_
      | refine RW.opE0 (runs_storeW ti32 rfl rfl hst (k := 2) rfl rfl rfl (NoFz.zero _) rfl) ?_
      | refine RW.opE0 (runs_storeP ti32 rfl rfl hst (k := 2) rfl rfl rfl (NoFz.zero _) rfl) ?_
    rintro w hstn
    clear hst
    have hst := hstn
    clear hstn
    try simp only [List.set_cons_zero, List.set_cons_succ] at hst
    refine RW.op1 rfl (runs_assign rfl) ?_
    refine RW.op1 rfl (runs_assign rfl) ?_
    refine RW.op1 rfl (runs_assign rfl) ?_
    refine RW.done ?_
    refine AQ.next ?_
    refine CW.seq ?_
    refine CW.seq ?_
    -- region 18
    refine CW.region ?_
    refine RW.op1 rfl (runs_move rfl) ?_
    refine RW.op1 rfl (runs_neI rfl rfl) ?_
    refine RW.done ?_
    refine AQ.next ?_
    refine CW.cond rfl (fun hc89 => ?_) (fun hc89 => ?_)
    · have hcb89 := hc89
      try simp only [decide_eq_true_eq, decide_eq_false_iff_not] at hc89
      obtain ⟨rfl, rfl, hall⟩ : rer = 2 ∧ rb = [] ∧ allK ks (needN bb.length) = false := by
        rcases hlaw with h | ⟨h, _⟩ | ⟨h, _⟩
        · exact h
        · exact absurd h hc89
        · exact absurd h hc89
      refine CW.seq ?_
      -- region 19
      refine CW.region ?_
      refine RW.op1 rfl (runs_move rfl) ?_
      refine RW.op1 rfl (runs_not rfl) ?_
      refine RW.op1 rfl (runs_move rfl) ?_
      have hk92 := (show (!allK ks (needN bb.length)) = true by rw [hall]; rfl)
      refine RW.on_guard rfl rfl rfl rfl hk92 ?_
      refine RW.op1 rfl (runs_move rfl) ?_
      refine RW.on_guard rfl rfl rfl rfl hk92 ?_
      refine RW.op1 rfl (runs_eqI rfl rfl) ?_
      refine RW.op1 rfl (runs_pick_true rfl hk92 rfl) ?_
      refine RW.op1 rfl (runs_move rfl) ?_
      have hk96 := (show decide ((2 : Int) = 2) = true by decide)
      refine RW.on_guard rfl rfl rfl rfl hk96 ?_
      refine RW.op1 rfl (runs_move rfl) ?_
      refine RW.on_guard rfl rfl rfl rfl hk96 ?_
      refine RW.op1 rfl (RdL.len Try.underlying24 rfl hG) ?_
      refine RW.on_guard rfl rfl rfl rfl hk96 ?_
      refine RW.op1 rfl (runs_eqI rfl rfl) ?_
      refine RW.op1 rfl (runs_pick_true rfl hk96 rfl) ?_
      refine RW.op1 rfl (runs_move rfl) ?_
      have hk101 := (show decide (((([] : List UInt8).length : Nat) : Int) = 0) = true by decide)
      refine RW.on_guard rfl rfl rfl rfl hk101 ?_
      refine RW.call rfl call16 rfl rfl (wakes03_spec hst) ?_
      rintro e w ⟨I14, hI14, rfl, hstn⟩
      clear hst
      have hst := hstn
      clear hstn
      replace hk0 := hk0.mono hI14
      replace hA := hA.mono hI14
      replace hB := hB.mono hI14
      replace hG := hG.mono hI14
      replace hle := hle.trans hI14
      refine ⟨_, rfl, ?_⟩
      refine RW.op1 rfl (runs_pick_true rfl hk101 rfl) ?_
      refine RW.op1 rfl (runs_assign rfl) ?_
      refine RW.done ?_
      refine AQ.next ?_
      refine CW.ret ?_
      refine AQ.past_ret ?_
      refine AQ.ret1 rfl rfl ?_
      exact ⟨rfl, _, hle, hst.sub (by first | exact ((List.sublist_append_right _ _).trans (List.sublist_cons_self _ _)) | exact (((List.sublist_append_right _ _).trans (List.sublist_cons_self _ _)).trans (List.sublist_cons_self _ _)))⟩
    · have hcb89 := hc89
      try simp only [decide_eq_true_eq, decide_eq_false_iff_not] at hc89
      have hlaw2 : (re = 2 ∧ rq = 4 ∧ rb = bb ∧ allK ks (needN bb.length) = true) ∨ (re = 1 ∧ rq = 4 ∧ rb = ba) := by
        rcases hlaw with ⟨h, _⟩ | ⟨_, h⟩ | ⟨_, h⟩
        · omega
        · exact .inl h
        · exact .inr h
      refine CW.skip ?_
      refine AQ.next ?_
      refine CW.seq ?_
      refine CW.seq ?_
      -- region 20
      refine CW.region ?_
      first
        | refine RW.op1 rfl (runs_loadN (vs := [_, _]) ag32 ti32 rfl hst (k := 0) rfl rfl rfl) ?_
        | refine RW.op1 rfl (runs_loadN (vs := [_, _]) ag32 ti32 rfl hst (k := 1) rfl rfl rfl) ?_
        | refine RW.op1 rfl (runs_loadN (vs := [_, _]) ag32 ti32 rfl hst (k := 2) rfl rfl rfl) ?_
      refine RW.op1 rfl (runs_buildF (cells := [_, _]) bz32 rfl rfl rfl rfl rfl) ?_
      refine RW.op1 rfl (runs_eqZ (xs := [_, _]) (ys := [_, _]) ez32 rfl rfl rfl rfl) ?_
      refine RW.done ?_
      refine AQ.next ?_
      refine CW.cond rfl (fun hc106 => ?_) (fun hc106 => ?_)
      · have hcb106 := hc106
        try simp only [decide_eq_true_eq, decide_eq_false_iff_not] at hc106
        obtain ⟨h1, h2, h3, hall⟩ : re = 2 ∧ rq = 4 ∧ rb = bb ∧ allK ks (needN bb.length) = true := by
          rcases hlaw2 with h | ⟨h1, h2, h3⟩
          · exact h
          · subst h1; simp at hc106
        subst h3
        refine CW.seq ?_
        -- region 21
        refine CW.region ?_
        refine RW.op1 rfl (runs_move rfl) ?_
        refine RW.op1 rfl (runs_move rfl) ?_
        have hk108 := hall
        refine RW.on_guard rfl rfl rfl rfl hk108 ?_
        refine RW.op1 rfl (runs_move rfl) ?_
        refine RW.on_guard rfl rfl rfl rfl hk108 ?_
        refine RW.op1 rfl (runs_move rfl) ?_
        refine RW.on_guard rfl rfl rfl rfl hk108 ?_
        refine RW.call rfl call14 rfl rfl (same_spec hst hG hB (by omega)) ?_
        rintro e w ⟨rfl, hstn⟩
        clear hst
        have hst := hstn
        clear hstn
        refine ⟨_, rfl, ?_⟩
        refine RW.op1 rfl (runs_pick_true rfl hk108 rfl) ?_
        refine RW.op1 rfl (runs_move rfl) ?_
        have hk113 := (show decide (rb = rb) = true by simp)
        refine RW.on_guard rfl rfl rfl rfl hk113 ?_
        refine RW.call rfl call16 rfl rfl (wakes03_spec hst) ?_
        rintro e w ⟨I16, hI16, rfl, hstn⟩
        clear hst
        have hst := hstn
        clear hstn
        replace hk0 := hk0.mono hI16
        replace hA := hA.mono hI16
        replace hB := hB.mono hI16
        replace hG := hG.mono hI16
        replace hle := hle.trans hI16
        refine ⟨_, rfl, ?_⟩
        refine RW.op1 rfl (runs_pick_true rfl hk113 rfl) ?_
        refine RW.op1 rfl (runs_assign rfl) ?_
        refine RW.done ?_
        refine AQ.next ?_
        refine CW.ret ?_
        refine AQ.past_ret ?_
        refine AQ.ret1 rfl rfl ?_
        exact ⟨rfl, _, hle, hst.sub (by first | exact ((List.sublist_append_right _ _).trans (List.sublist_cons_self _ _)) | exact (((List.sublist_append_right _ _).trans (List.sublist_cons_self _ _)).trans (List.sublist_cons_self _ _)))⟩
      · have hcb106 := hc106
        try simp only [decide_eq_true_eq, decide_eq_false_iff_not] at hc106
        obtain ⟨h1, h2, h3⟩ : re = 1 ∧ rq = 4 ∧ rb = ba := by
          rcases hlaw2 with ⟨h1, h2, _⟩ | h
          · exact absurd (by rw [h1, h2]) hc106
          · exact h
        subst h1 h2 h3
        refine CW.skip ?_
        refine AQ.next ?_
        refine CW.seq ?_
        -- region 22
        refine CW.region ?_
        first
          | refine RW.op1 rfl (runs_loadN (vs := [_, _]) ag32 ti32 rfl hst (k := 0) rfl rfl rfl) ?_
          | refine RW.op1 rfl (runs_loadN (vs := [_, _]) ag32 ti32 rfl hst (k := 1) rfl rfl rfl) ?_
          | refine RW.op1 rfl (runs_loadN (vs := [_, _]) ag32 ti32 rfl hst (k := 2) rfl rfl rfl) ?_
        refine RW.op1 rfl (runs_buildF (cells := [_, _]) bz32 rfl rfl rfl rfl rfl) ?_
        refine RW.op1 rfl (runs_eqZ (xs := [_, _]) (ys := [_, _]) ez32 rfl rfl rfl rfl) ?_
        refine RW.op1 rfl (runs_move rfl) ?_
        have hk119 := (show decide (([1, 4] : List Int) = [1, 4]) = true by decide)
        refine RW.on_guard rfl rfl rfl rfl hk119 ?_
        refine RW.op1 rfl (runs_move rfl) ?_
        refine RW.on_guard rfl rfl rfl rfl hk119 ?_
        refine RW.op1 rfl (runs_move rfl) ?_
        refine RW.on_guard rfl rfl rfl rfl hk119 ?_
        refine RW.call rfl call14 rfl rfl (same_spec hst hG hA (by omega)) ?_
        rintro e w ⟨rfl, hstn⟩
        clear hst
        have hst := hstn
        clear hstn
        refine ⟨_, rfl, ?_⟩
        refine RW.op1 rfl (runs_pick_true rfl hk119 rfl) ?_
        refine RW.op1 rfl (runs_move rfl) ?_
        have hk124 := (show decide (rb = rb) = true by simp)
        refine RW.on_guard rfl rfl rfl rfl hk124 ?_
        refine RW.call rfl call16 rfl rfl (wakes03_spec hst) ?_
        rintro e w ⟨I18, hI18, rfl, hstn⟩
        clear hst
        have hst := hstn
        clear hstn
        replace hk0 := hk0.mono hI18
        replace hA := hA.mono hI18
        replace hB := hB.mono hI18
        replace hG := hG.mono hI18
        replace hle := hle.trans hI18
        refine ⟨_, rfl, ?_⟩
        refine RW.op1 rfl (runs_pick_true rfl hk124 rfl) ?_
        refine RW.op1 rfl (runs_assign rfl) ?_
        refine RW.done ?_
        refine AQ.next ?_
        refine CW.ret ?_
        refine AQ.ret1 rfl rfl ?_
        exact ⟨rfl, _, hle, hst.sub (by first | exact ((List.sublist_append_right _ _).trans (List.sublist_cons_self _ _)) | exact (((List.sublist_append_right _ _).trans (List.sublist_cons_self _ _)).trans (List.sublist_cons_self _ _)))⟩
end Go.Proofs.YtcbndkllppmmmaaX
