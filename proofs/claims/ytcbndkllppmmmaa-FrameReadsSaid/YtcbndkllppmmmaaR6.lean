/- The chapter's example; sums and sectors of a few bytes: the walks. -/
import Derived.Test.YtcbndkllppmmmaaT
import Derived.Test.YtcbndkllppmmmaaR5
namespace Go.Proofs.YtcbndkllppmmmaaX
set_option linter.unusedVariables false
set_option linter.unusedSimpArgs false
open Go Go.RowKit Go.Proofs

set_option maxRecDepth 100000 in
set_option maxHeartbeats 1000000 in
theorem wakes03_spec {w0 w : World} {I : Imm} {L : Own} (hst : St w0 w I L) :
    Calls Try.prog 16 #[] w fun e w' => ∃ I', Imm.le I I' ∧ e = .returned (.bool true) ∧ St w0 w' I' L := by
  refine enter Try.func16 rfl (N := 9) rfl rfl ?_
  simp only [List.zipIdx_cons, List.zipIdx_nil, List.map_cons, List.map_nil, Nat.zero_add, Nat.reduceAdd]
  have hle := Imm.le.refl I
  refine CW.seq ?_
  -- region 0
  refine CW.region ?_
  refine RW.op1 rfl (runs_assign rfl) ?_
  refine RW.done ?_
  refine AQ.next ?_
  refine CW.seq ?_
  -- region 1
  refine CW.region ?_
  refine RW.call rfl call9 rfl rfl (need_spec (bs := []) hst (RdL.nil 1) (by decide)) ?_
  rintro e w ⟨rfl, hstn⟩
  clear hst
  have hst := hstn
  clear hstn
  refine ⟨_, rfl, ?_⟩
  refine RW.op1 rfl (runs_eqI rfl rfl) ?_
  refine RW.op1 rfl (runs_move rfl) ?_
  have hk3 := (show decide (((needN ([] : List UInt8).length : Nat) : Int) = 1) = true by decide +kernel)
  refine RW.on_guard rfl rfl rfl rfl hk3 ?_
  refine RW.opE rfl (runs_lit1 (xs := ([49, 50, 51, 52, 53, 54, 55, 56, 57] : List UInt8).map b8) Try.underlying24 ti5 (by decide) rfl rfl rfl (b8_one _) hst) ?_
  rintro u2 w ⟨Lv2, hstn, hg2⟩
  clear hst
  have hst := hstn
  clear hstn
  refine RW.on_guard rfl rfl rfl rfl hk3 ?_
  refine RW.opE rfl (runs_convMark Try.underlying24 Try.underlying5 rfl hst (by assumption) (by decide)) ?_
  rintro u3 w ⟨I3, hI3, hstn, h3⟩
  clear hst
  have hst := hstn
  clear hstn
  replace hle := hle.trans hI3
  have hC := h3
  refine RW.on_guard rfl rfl rfl rfl hk3 ?_
  refine RW.call rfl call8 rfl rfl (sum_spec (bs := [49, 50, 51, 52, 53, 54, 55, 56, 57]) hst hC (by decide)) ?_
  rintro e w ⟨rfl, hstn⟩
  clear hst
  have hst := hstn
  clear hstn
  refine ⟨_, rfl, ?_⟩
  refine RW.on_guard rfl rfl rfl rfl hk3 ?_
  refine RW.op1 rfl (runs_eqI rfl rfl) ?_
  refine RW.op1 rfl (runs_pick_true rfl hk3 rfl) ?_
  refine RW.op1 rfl (runs_assign rfl) ?_
  refine RW.done ?_
  refine AQ.next ?_
  refine CW.ret ?_
  refine AQ.ret1 rfl rfl ?_
  exact ⟨_, hle, by rw [show decide ((((sumN [49, 50, 51, 52, 53, 54, 55, 56, 57] : Nat)) : Int) = 3421780262) = true by decide +kernel], hst⟩
set_option maxRecDepth 100000 in
set_option maxHeartbeats 1000000 in
theorem fforms_spec {w0 w : World} {I : Imm} {L : Own} (hst : St w0 w I L) (n : Int) (hn : i64ok n) :
    Calls Try.prog 3 #[.int .i64 n] w fun e w' => e = .returned (.bool true) ∧ ∃ I', I.le I' ∧ St w0 w' I' L := by
  refine enter Try.func3 rfl (N := 144) rfl rfl ?_
  simp only [List.zipIdx_cons, List.zipIdx_nil, List.map_cons, List.map_nil, Nat.zero_add, Nat.reduceAdd]
  have hle := Imm.le.refl I
  refine CW.seq ?_
  -- region 0
  refine CW.region ?_
  refine RW.op1 rfl (runs_assign rfl) ?_
  refine RW.done ?_
  refine AQ.next ?_
  refine CW.seq ?_
  refine CW.seq ?_
  -- region 1
  refine CW.region ?_
  refine RW.call rfl call8 rfl rfl (sum_spec (bs := []) hst (RdL.nil 1) (by decide)) ?_
  rintro e w ⟨rfl, hstn⟩
  clear hst
  have hst := hstn
  clear hstn
  refine ⟨_, rfl, ?_⟩
  refine RW.op1 rfl (runs_neI rfl rfl) ?_
  refine RW.op1 rfl (runs_move rfl) ?_
  have hk19 := (show decide (((sumN [] : Nat) : Int) ≠ 0) = false by decide +kernel)
  refine RW.on_guard rfl rfl rfl rfl hk19 ?_
  refine RW.opE rfl (runs_litB (bs := [0]) rfl Try.underlying24 ti5 (by decide) rfl rfl rfl hst) ?_
  rintro u2 w ⟨I2, hI2, hstn, h2⟩
  clear hst
  have hst := hstn
  clear hstn
  replace hle := hle.trans hI2
  have hA := h2
  refine RW.on_guard rfl rfl rfl rfl hk19 ?_
  refine RW.call rfl call8 rfl rfl (sum_spec (bs := [0]) hst hA (by decide)) ?_
  rintro e w ⟨rfl, hstn⟩
  clear hst
  have hst := hstn
  clear hstn
  refine ⟨_, rfl, ?_⟩
  refine RW.on_guard rfl rfl rfl rfl hk19 ?_
  refine RW.op1 rfl (runs_neI rfl rfl) ?_
  refine RW.op1 rfl (runs_pick_false rfl hk19 rfl) ?_
  refine RW.op1 rfl (runs_move rfl) ?_
  have hk24 := (show decide (((sumN [0] : Nat) : Int) ≠ 3523407757) = false by decide +kernel)
  refine RW.on_guard rfl rfl rfl rfl hk24 ?_
  refine RW.opE rfl (runs_lit1 (xs := ([97] : List UInt8).map b8) Try.underlying24 ti5 (by decide) rfl rfl rfl (b8_one _) hst) ?_
  rintro u4 w ⟨Lv4, hstn, hg4⟩
  clear hst
  have hst := hstn
  clear hstn
  refine RW.on_guard rfl rfl rfl rfl hk24 ?_
  refine RW.opE rfl (runs_convMark Try.underlying24 Try.underlying5 rfl hst (by assumption) (by decide)) ?_
  rintro u5 w ⟨I5, hI5, hstn, h5⟩
  clear hst
  have hst := hstn
  clear hstn
  replace h2 := h2.mono hI5
  replace hle := hle.trans hI5
  have hC := h5
  refine RW.on_guard rfl rfl rfl rfl hk24 ?_
  refine RW.call rfl call8 rfl rfl (sum_spec (bs := [97]) hst hC (by decide)) ?_
  rintro e w ⟨rfl, hstn⟩
  clear hst
  have hst := hstn
  clear hstn
  refine ⟨_, rfl, ?_⟩
  refine RW.on_guard rfl rfl rfl rfl hk24 ?_
  refine RW.op1 rfl (runs_neI rfl rfl) ?_
  refine RW.op1 rfl (runs_pick_false rfl hk24 rfl) ?_
  refine RW.op1 rfl (runs_move rfl) ?_
  have hk30 := (show decide (((sumN [97] : Nat) : Int) ≠ 3904355907) = false by decide +kernel)
  refine RW.on_guard rfl rfl rfl rfl hk30 ?_
  refine RW.opE rfl (runs_makeSlice (n := 15) Try.underlying24 ti5 rfl hst (by omega) (by unfold maxLen; omega)) ?_
  rintro _ w ⟨bza, rfl, hstn⟩
  clear hst
  have hst := hstn
  clear hstn
  rw [made_b8] at hst
  obtain ⟨Iza, hIza, hstn, hza⟩ := RdB.of_block (n := 15) (by simp) hst (by unfold maxLen; omega)
  clear hst
  have hst := hstn
  clear hstn
  replace hle := hle.trans hIza
  refine RW.on_guard rfl rfl rfl rfl hk30 ?_
  refine RW.call rfl call9 rfl rfl (need_spec hst hza (by simp)) ?_
  rintro e w ⟨rfl, hstn⟩
  clear hst
  have hst := hstn
  clear hstn
  refine ⟨_, rfl, ?_⟩
  refine RW.on_guard rfl rfl rfl rfl hk30 ?_
  refine RW.op1 rfl (runs_neI rfl rfl) ?_
  refine RW.op1 rfl (runs_pick_false rfl hk30 rfl) ?_
  refine RW.op1 rfl (runs_move rfl) ?_
  have hk35 := (show decide (((needN (List.replicate 15 (0 : UInt8)).length : Nat) : Int) ≠ 1) = false by decide +kernel)
  refine RW.on_guard rfl rfl rfl rfl hk35 ?_
  refine RW.opE rfl (runs_makeSlice (n := 16) Try.underlying24 ti5 rfl hst (by omega) (by unfold maxLen; omega)) ?_
  rintro _ w ⟨bzb, rfl, hstn⟩
  clear hst
  have hst := hstn
  clear hstn
  rw [made_b8] at hst
  obtain ⟨Izb, hIzb, hstn, hzb⟩ := RdB.of_block (n := 16) (by simp) hst (by unfold maxLen; omega)
  clear hst
  have hst := hstn
  clear hstn
  replace hle := hle.trans hIzb
  refine RW.on_guard rfl rfl rfl rfl hk35 ?_
  refine RW.call rfl call9 rfl rfl (need_spec hst hzb (by simp)) ?_
  rintro e w ⟨rfl, hstn⟩
  clear hst
  have hst := hstn
  clear hstn
  refine ⟨_, rfl, ?_⟩
  refine RW.on_guard rfl rfl rfl rfl hk35 ?_
  refine RW.op1 rfl (runs_neI rfl rfl) ?_
  refine RW.op1 rfl (runs_pick_false rfl hk35 rfl) ?_
  refine RW.op1 rfl (runs_move rfl) ?_
  have hk40 := (show decide (((needN (List.replicate 16 (0 : UInt8)).length : Nat) : Int) ≠ 2) = false by decide +kernel)
  refine RW.on_guard rfl rfl rfl rfl hk40 ?_
  refine RW.opE rfl (runs_makeSlice (n := 34) Try.underlying24 ti5 rfl hst (by omega) (by unfold maxLen; omega)) ?_
  rintro _ w ⟨bzc, rfl, hstn⟩
  clear hst
  have hst := hstn
  clear hstn
  rw [made_b8] at hst
  obtain ⟨Izc, hIzc, hstn, hzc⟩ := RdB.of_block (n := 34) (by simp) hst (by unfold maxLen; omega)
  clear hst
  have hst := hstn
  clear hstn
  replace hle := hle.trans hIzc
  refine RW.on_guard rfl rfl rfl rfl hk40 ?_
  refine RW.call rfl call9 rfl rfl (need_spec hst hzc (by simp)) ?_
  rintro e w ⟨rfl, hstn⟩
  clear hst
  have hst := hstn
  clear hstn
  refine ⟨_, rfl, ?_⟩
  refine RW.on_guard rfl rfl rfl rfl hk40 ?_
  refine RW.op1 rfl (runs_neI rfl rfl) ?_
  refine RW.op1 rfl (runs_pick_false rfl hk40 rfl) ?_
  refine RW.op1 rfl (runs_move rfl) ?_
  have hk45 := (show decide (((needN (List.replicate 34 (0 : UInt8)).length : Nat) : Int) ≠ 2) = false by decide +kernel)
  refine RW.on_guard rfl rfl rfl rfl hk45 ?_
  refine RW.opE rfl (runs_makeSlice (n := 35) Try.underlying24 ti5 rfl hst (by omega) (by unfold maxLen; omega)) ?_
  rintro _ w ⟨bzd, rfl, hstn⟩
  clear hst
  have hst := hstn
  clear hstn
  rw [made_b8] at hst
  obtain ⟨Izd, hIzd, hstn, hzd⟩ := RdB.of_block (n := 35) (by simp) hst (by unfold maxLen; omega)
  clear hst
  have hst := hstn
  clear hstn
  replace hle := hle.trans hIzd
  refine RW.on_guard rfl rfl rfl rfl hk45 ?_
  refine RW.call rfl call9 rfl rfl (need_spec hst hzd (by simp)) ?_
  rintro e w ⟨rfl, hstn⟩
  clear hst
  have hst := hstn
  clear hstn
  refine ⟨_, rfl, ?_⟩
  refine RW.on_guard rfl rfl rfl rfl hk45 ?_
  refine RW.op1 rfl (runs_neI rfl rfl) ?_
  refine RW.op1 rfl (runs_pick_false rfl hk45 rfl) ?_
  refine RW.done ?_
  refine AQ.next ?_
  refine CW.cond rfl (fun hc => absurd hc (show ¬ decide (((needN (List.replicate 35 (0 : UInt8)).length : Nat) : Int) ≠ 3) = true by decide +kernel)) (fun hc => ?_)
  refine CW.skip ?_
  refine AQ.next ?_
  refine CW.seq ?_
  -- region 3
  refine CW.region ?_
  refine RW.call rfl call10 rfl rfl (new_spec hst 3) ?_
  rintro e w ⟨_, Ld1, rfl, _, hstn, hd1, a1, rfl⟩
  clear hst
  have hst := hstn
  clear hstn
  refine ⟨_, rfl, ?_⟩
  refine RW.op1 rfl (runs_assign rfl) ?_
  refine RW.done ?_
  refine AQ.next ?_
  refine CW.seq ?_
  refine CW.seq ?_
  -- region 4
  refine CW.region ?_
  refine RW.op1 rfl (runs_move rfl) ?_
  refine RW.op1 rfl (runs_eq_nilptr Try.underlying26 rfl) ?_
  refine RW.done ?_
  refine AQ.next ?_
  refine CW.cond rfl (fun hc => absurd hc (by rw [(show (Option.isNone (some a1)) = false from rfl)]; decide)) (fun hc => ?_)
  refine CW.skip ?_
  refine AQ.next ?_
  refine CW.seq ?_
  -- region 6
  refine CW.region ?_
  refine RW.op1 rfl (runs_move rfl) ?_
  refine RW.op1 rfl (runs_buildF (cells := [_, _]) bz32 rfl rfl rfl rfl rfl) ?_
  refine RW.opE rfl (runs_lit1 (xs := ([97] : List UInt8).map b8) Try.underlying24 ti5 (by decide) rfl rfl rfl (b8_one _) hst) ?_
  rintro u16 w ⟨Lv16, hstn, hg16⟩
  clear hst
  have hst := hstn
  clear hstn
  refine RW.opE rfl (runs_convMark Try.underlying24 Try.underlying5 rfl hst (by assumption) (by decide)) ?_
  rintro u17 w ⟨I17, hI17, hstn, h17⟩
  clear hst
  have hst := hstn
  clear hstn
  replace hle := hle.trans hI17
  have hB := h17
  refine RW.call rfl call11 rfl rfl (fwrite_spec (b := [97]) hd1 hst 1 1 2 (by unfold i64ok; decide) hB (by decide) (by decide)) ?_
  rintro e w ⟨I18, Ld2, S2, nx, er, hI18, rfl, hstn, hd2, hfw⟩
  clear hst
  have hst := hstn
  clear hstn
  obtain ⟨hS2, hnx, her⟩ := fw_ok (S := newR 3) ⟨rfl, rfl⟩ (by decide) (by decide +kernel) (by decide) (by decide +kernel) hfw
  rw [hnx, her]
  have hup : Up S2 := by rw [hS2]; exact ⟨rfl, rfl⟩
  have hsl : S2.secs.length = 3 := by rw [hS2]; rfl
  have hpl : S2.pend.length = 1 := by rw [hS2]; rfl
  have hrd : readR S2 1 = secB 1 2 [97] 0 := by rw [hS2]; exact read_in (S := newR 3) (at_ := 1) (f := secB 1 2 [97]) (n := needN ([97] : List UInt8).length) (j := 0) (by decide)
  replace h17 := h17.mono hI18
  replace hB := hB.mono hI18
  replace hle := hle.trans hI18
  refine ⟨_, rfl, ?_⟩
  refine RW.op1 rfl (runs_move rfl) ?_
  refine RW.op1 rfl (runs_extract rfl rfl) ?_
  refine RW.op1 rfl (runs_extract rfl rfl) ?_
  refine RW.op1 rfl (runs_assign rfl) ?_
  refine RW.op1 rfl (runs_assign rfl) ?_
  refine RW.done ?_
  refine AQ.next ?_
  refine CW.seq ?_
  -- region 7
  refine CW.region ?_
  refine RW.op1 rfl (runs_move rfl) ?_
  refine RW.call rfl call12 rfl rfl (read_spec hd2 hst 1) ?_
  rintro e w ⟨I19, vr, hI19, rfl, hstn, hr⟩
  clear hst
  have hst := hstn
  clear hstn
  rw [if_pos (may_in hup.1 (by decide) (by omega)), hrd] at hr
  rw [may_in hup.1 (by decide) (by omega)]
  replace hle := hle.trans hI19
  refine ⟨_, rfl, ?_⟩
  refine RW.op1 rfl (runs_move rfl) ?_
  refine RW.op1 rfl (runs_extract rfl rfl) ?_
  refine RW.op1 rfl (runs_extract rfl rfl) ?_
  refine RW.op1 rfl (runs_assign rfl) ?_
  refine RW.op1 rfl (runs_assign rfl) ?_
  refine RW.done ?_
  refine AQ.next ?_
  refine CW.seq ?_
  -- region 8
  refine CW.region ?_
  refine RW.opE rfl (runs_lit1 (xs := ([0, 1, 0, 0, 2, 0, 1, 5, 232, 183, 190, 67, 97] : List UInt8).map b8) Try.underlying24 ti5 (by decide) rfl rfl rfl (b8_one _) hst) ?_
  rintro u20 w ⟨Lv20, hstn, hg20⟩
  clear hst
  have hst := hstn
  clear hstn
  have hg66 := hg20
  refine RW.opE rfl (runs_appendZ (m := 14) Try.underlying24 ti5 Try.underlying3 rfl rfl hst hg66 (by simp)) ?_
  rintro u21 w ⟨Lv21, hstn, hg21⟩
  clear hst
  have hst := hstn
  clear hstn
  have hg67 := hg21
  refine RW.op1 rfl (runs_assign rfl) ?_
  refine RW.done ?_
  refine AQ.next ?_
  refine CW.seq ?_
  -- region 9
  refine CW.region ?_
  refine RW.op1 rfl (runs_move rfl) ?_
  refine RW.opE rfl (runs_litB (bs := [0, 0, 2, 0, 1]) rfl Try.underlying24 ti5 (by decide) rfl rfl rfl hst) ?_
  rintro u22 w ⟨I22, hI22, hstn, h22⟩
  clear hst
  have hst := hstn
  clear hstn
  replace hr := hr.mono hI22
  replace hle := hle.trans hI22
  have h69 := h22
  refine RW.opE rfl (runs_appendB Try.underlying24 ti5 rfl rfl hst hg67 h69 (by simp)) ?_
  rintro u23 w ⟨Lv23, hstn, hg23⟩
  clear hst
  have hst := hstn
  clear hstn
  obtain ⟨J23, hJ23, hstn, h23⟩ := Grow.freeze hg23 hst
  clear hst
  have hst := hstn
  clear hstn
  replace hr := hr.mono hJ23
  replace h22 := h22.mono hJ23
  replace hle := hle.trans hJ23
  try simp only [List.nil_append] at h23
  replace h23 : RdB J23 u23 [0, 1, 0, 0, 2, 0, 1, 5, 232, 183, 190, 67, 97, 0, 0, 0, 0, 0, 0, 0, 0, 0, 0, 0, 0, 0, 0, 0, 0, 2, 0, 1] := h23
  have hW := h23
  refine RW.op1 rfl (runs_assign rfl) ?_
  refine RW.done ?_
  refine AQ.next ?_
  refine CW.seq ?_
  -- region 10
  refine CW.region ?_
  refine RW.op1 rfl (runs_move rfl) ?_
  refine RW.call rfl call13 rfl rfl (within_spec hst (v := n) (n := 1000) hn (by unfold i64ok; decide)) ?_
  rintro e w ⟨rfl, hstn⟩
  clear hst
  have hst := hstn
  clear hstn
  have hw1 := within_range n 1000
  generalize hx1 : within n 1000 = x1 at *
  refine ⟨_, rfl, ?_⟩
  refine RW.op1 rfl (runs_add rfl rfl (by omega)) ?_
  obtain ⟨n1, hn1⟩ : ∃ m : Int, 1 + x1 = m := ⟨_, rfl⟩
  rw [hn1]
  refine RW.op1 rfl (runs_assign rfl) ?_
  refine RW.done ?_
  refine AQ.next ?_
  refine CW.seq ?_
  -- region 11
  refine CW.region ?_
  refine RW.op1 rfl (runs_move rfl) ?_
  refine RW.op1 rfl (runs_buildF (cells := [_, _]) bz32 rfl rfl rfl rfl rfl) ?_
  refine RW.opE rfl (runs_makeSlice (n := 16) Try.underlying24 ti5 rfl hst (by omega) (by unfold maxLen; omega)) ?_
  rintro _ w ⟨bze, rfl, hstn⟩
  clear hst
  have hst := hstn
  clear hstn
  rw [made_b8] at hst
  obtain ⟨Ize, hIze, hstn, hze⟩ := RdB.of_block (n := 16) (by simp) hst (by unfold maxLen; omega)
  clear hst
  have hst := hstn
  clear hstn
  replace hle := hle.trans hIze
  replace hr := RdL.mono hIze hr
  replace hW := RdL.mono hIze hW
  refine RW.call rfl call11 rfl rfl (fwrite_spec hd2 hst 2 0 0 (by unfold i64ok; decide) hze (by simp) (by omega)) ?_
  rintro e w ⟨I26, Ld3, S3, nx3, er3, hI26, rfl, hstn, hd3, hfw3⟩
  clear hst
  have hst := hstn
  clear hstn
  obtain ⟨rfl, rfl, rfl⟩ := fw_range (by decide) (by decide +kernel) (.inr (by rw [hsl]; decide +kernel)) hfw3
  replace hr := hr.mono hI26
  replace hW := hW.mono hI26
  replace hze := hze.mono hI26
  replace hle := hle.trans hI26
  refine ⟨_, rfl, ?_⟩
  refine RW.op1 rfl (runs_move rfl) ?_
  refine RW.op1 rfl (runs_extract rfl rfl) ?_
  refine RW.op1 rfl (runs_extract rfl rfl) ?_
  refine RW.op1 rfl (runs_assign rfl) ?_
  refine RW.op1 rfl (runs_assign rfl) ?_
  refine RW.done ?_
  refine AQ.next ?_
  refine CW.seq ?_
  -- region 12
  refine CW.region ?_
  refine RW.op1 rfl (runs_move rfl) ?_
  refine RW.op1 rfl (runs_move rfl) ?_
  refine RW.op1 rfl (runs_neg rfl (by omega)) ?_
  refine RW.op1 rfl (runs_buildF (cells := [_, _]) bz32 rfl rfl rfl rfl rfl) ?_
  refine RW.call rfl call11 rfl rfl (fwrite_spec (b := []) hd3 hst (-n1) 0 0 (by unfold i64ok; omega) (RdL.nil 1) (by decide) (by omega)) ?_
  rintro e w ⟨I27, Ld4, S4, nx4, er4, hI27, rfl, hstn, hd4, hfw4⟩
  clear hst
  have hst := hstn
  clear hstn
  obtain ⟨rfl, rfl, rfl⟩ := fw_range (by decide) (by decide +kernel) (.inl (by omega)) hfw4
  replace hr := hr.mono hI27
  replace hW := hW.mono hI27
  replace hze := hze.mono hI27
  replace hle := hle.trans hI27
  refine ⟨_, rfl, ?_⟩
  refine RW.op1 rfl (runs_move rfl) ?_
  refine RW.op1 rfl (runs_extract rfl rfl) ?_
  refine RW.op1 rfl (runs_extract rfl rfl) ?_
  refine RW.op1 rfl (runs_assign rfl) ?_
  refine RW.op1 rfl (runs_assign rfl) ?_
  refine RW.done ?_
  refine AQ.next ?_
  refine CW.seq ?_
  -- region 13
  refine CW.region ?_
  refine RW.op1 rfl (runs_move rfl) ?_
  refine RW.op1 rfl (runs_move rfl) ?_
  refine RW.op1 rfl (runs_add rfl rfl (by omega)) ?_
  refine RW.op1 rfl (runs_buildF (cells := [_, _]) bz32 rfl rfl rfl rfl rfl) ?_
  refine RW.call rfl call11 rfl rfl (fwrite_spec (b := []) hd4 hst (2 + n1) 0 0 (by unfold i64ok; omega) (RdL.nil 1) (by decide) (by omega)) ?_
  rintro e w ⟨I28, Ld5, S5, nx5, er5, hI28, rfl, hstn, hd5, hfw5⟩
  clear hst
  have hst := hstn
  clear hstn
  obtain ⟨rfl, rfl, rfl⟩ := fw_range (by decide) (by decide +kernel) (.inr (by rw [hsl, show needN ([] : List UInt8).length = 1 from rfl]; omega)) hfw5
  replace hr := hr.mono hI28
  replace hW := hW.mono hI28
  replace hze := hze.mono hI28
  replace hle := hle.trans hI28
  refine ⟨_, rfl, ?_⟩
  refine RW.op1 rfl (runs_move rfl) ?_
  refine RW.op1 rfl (runs_extract rfl rfl) ?_
  refine RW.op1 rfl (runs_extract rfl rfl) ?_
  refine RW.op1 rfl (runs_assign rfl) ?_
  refine RW.op1 rfl (runs_assign rfl) ?_
  refine RW.done ?_
  refine AQ.next ?_
  refine CW.seq ?_
  -- region 14
  refine CW.region ?_
  refine RW.op1 rfl (runs_move rfl) ?_
  refine RW.op1 rfl (runs_move rfl) ?_
  refine RW.op1 rfl (runs_neg rfl (by omega)) ?_
  refine RW.op1 rfl (runs_buildF (cells := [_, _]) bz32 rfl rfl rfl rfl rfl) ?_
  refine RW.call rfl call11 rfl rfl (fwrite_spec (b := []) hd5 hst 0 0 (-n1) (by unfold i64ok; decide) (RdL.nil 1) (by decide) (by omega)) ?_
  rintro e w ⟨I29, Ld6, S6, nx6, er6, hI29, rfl, hstn, hd6, hfw6⟩
  clear hst
  have hst := hstn
  clear hstn
  obtain ⟨rfl, rfl, rfl⟩ := fw_arg (.inl (by unfold mayM; rw [decide_eq_false (show ¬ 0 ≤ -n1 by omega)]; simp)) hfw6
  replace hr := hr.mono hI29
  replace hW := hW.mono hI29
  replace hze := hze.mono hI29
  replace hle := hle.trans hI29
  refine ⟨_, rfl, ?_⟩
  refine RW.op1 rfl (runs_move rfl) ?_
  refine RW.op1 rfl (runs_extract rfl rfl) ?_
  refine RW.op1 rfl (runs_extract rfl rfl) ?_
  refine RW.op1 rfl (runs_assign rfl) ?_
  refine RW.op1 rfl (runs_assign rfl) ?_
  refine RW.done ?_
  refine AQ.next ?_
  refine CW.seq ?_
  -- region 15
  refine CW.region ?_
  refine RW.op1 rfl (runs_move rfl) ?_
  refine RW.op1 rfl (runs_eqI rfl rfl) ?_
  refine RW.op1 rfl (runs_move rfl) ?_
  have hk107 := (show decide ((0 : Int) = 0) = true by decide)
  refine RW.on_guard rfl rfl rfl rfl hk107 ?_
  refine RW.op1 rfl (runs_move rfl) ?_
  refine RW.on_guard rfl rfl rfl rfl hk107 ?_
  refine RW.op1 rfl (runs_eqI rfl rfl) ?_
  refine RW.op1 rfl (runs_pick_true rfl hk107 rfl) ?_
  refine RW.op1 rfl (runs_move rfl) ?_
  have hk111 := (show decide (((1 : Int) + ((needN ([97] : List UInt8).length : Nat) : Int)) = 2) = true by decide +kernel)
  refine RW.on_guard rfl rfl rfl rfl hk111 ?_
  refine RW.op1 rfl (runs_move rfl) ?_
  refine RW.on_guard rfl rfl rfl rfl hk111 ?_
  refine RW.op1 rfl (runs_eqI rfl rfl) ?_
  refine RW.op1 rfl (runs_pick_true rfl hk111 rfl) ?_
  refine RW.op1 rfl (runs_move rfl) ?_
  have hk115 := (show decide ((0 : Int) = 0) = true by decide)
  refine RW.on_guard rfl rfl rfl rfl hk115 ?_
  refine RW.op1 rfl (runs_move rfl) ?_
  refine RW.on_guard rfl rfl rfl rfl hk115 ?_
  refine RW.op1 rfl (runs_move rfl) ?_
  refine RW.on_guard rfl rfl rfl rfl hk115 ?_
  refine RW.call rfl call14 rfl rfl (same_spec hst hr hW (by decide +kernel)) ?_
  rintro e w ⟨rfl, hstn⟩
  clear hst
  have hst := hstn
  clear hstn
  refine ⟨_, rfl, ?_⟩
  refine RW.op1 rfl (runs_pick_true rfl hk115 rfl) ?_
  refine RW.op1 rfl (runs_move rfl) ?_
  have hk120 := (show decide (secB 1 2 [97] 0 = [0, 1, 0, 0, 2, 0, 1, 5, 232, 183, 190, 67, 97, 0, 0, 0, 0, 0, 0, 0, 0, 0, 0, 0, 0, 0, 0, 0, 0, 2, 0, 1]) = true by decide +kernel)
  refine RW.on_guard rfl rfl rfl rfl hk120 ?_
  refine RW.op1 rfl (runs_move rfl) ?_
  refine RW.on_guard rfl rfl rfl rfl hk120 ?_
  refine RW.op1 rfl (runs_eqI rfl rfl) ?_
  refine RW.op1 rfl (runs_pick_true rfl hk120 rfl) ?_
  refine RW.op1 rfl (runs_move rfl) ?_
  have hk124 := (show decide ((9 : Int) = 9) = true by decide)
  refine RW.on_guard rfl rfl rfl rfl hk124 ?_
  refine RW.op1 rfl (runs_move rfl) ?_
  refine RW.on_guard rfl rfl rfl rfl hk124 ?_
  refine RW.op1 rfl (runs_eqI rfl rfl) ?_
  refine RW.op1 rfl (runs_pick_true rfl hk124 rfl) ?_
  refine RW.op1 rfl (runs_move rfl) ?_
  have hk128 := (show decide ((9 : Int) = 9) = true by decide)
  refine RW.on_guard rfl rfl rfl rfl hk128 ?_
  refine RW.op1 rfl (runs_move rfl) ?_
  refine RW.on_guard rfl rfl rfl rfl hk128 ?_
  refine RW.op1 rfl (runs_eqI rfl rfl) ?_
  refine RW.op1 rfl (runs_pick_true rfl hk128 rfl) ?_
  refine RW.op1 rfl (runs_move rfl) ?_
  have hk132 := (show decide ((9 : Int) = 9) = true by decide)
  refine RW.on_guard rfl rfl rfl rfl hk132 ?_
  refine RW.op1 rfl (runs_move rfl) ?_
  refine RW.on_guard rfl rfl rfl rfl hk132 ?_
  refine RW.op1 rfl (runs_eqI rfl rfl) ?_
  refine RW.op1 rfl (runs_pick_true rfl hk132 rfl) ?_
  refine RW.op1 rfl (runs_move rfl) ?_
  have hk136 := (show decide ((1 : Int) = 1) = true by decide)
  refine RW.on_guard rfl rfl rfl rfl hk136 ?_
  refine RW.op1 rfl (runs_move rfl) ?_
  refine RW.on_guard rfl rfl rfl rfl hk136 ?_
  refine RW.call rfl call15 rfl rfl (pending_spec hd6 hst) ?_
  rintro e w ⟨rfl, hstn⟩
  clear hst
  have hst := hstn
  clear hstn
  rw [hpl]
  refine ⟨_, rfl, ?_⟩
  refine RW.on_guard rfl rfl rfl rfl hk136 ?_
  refine RW.op1 rfl (runs_eqI rfl rfl) ?_
  refine RW.op1 rfl (runs_pick_true rfl hk136 rfl) ?_
  refine RW.op1 rfl (runs_move rfl) ?_
  have hk141 := (show decide (((1 : Nat) : Int) = 1) = true by decide)
  refine RW.on_guard rfl rfl rfl rfl hk141 ?_
  refine RW.call rfl call16 rfl rfl (wakes03_spec hst) ?_
  rintro e w ⟨I32, hI32, rfl, hstn⟩
  clear hst
  have hst := hstn
  clear hstn
  replace hr := hr.mono hI32
  replace hW := hW.mono hI32
  replace hze := hze.mono hI32
  replace hle := hle.trans hI32
  refine ⟨_, rfl, ?_⟩
  refine RW.op1 rfl (runs_pick_true rfl hk141 rfl) ?_
  refine RW.op1 rfl (runs_assign rfl) ?_
  refine RW.done ?_
  refine AQ.next ?_
  refine CW.ret ?_
  refine AQ.ret1 rfl rfl ?_
  exact ⟨rfl, _, hle, hst.sub (List.sublist_append_right _ _)⟩
end Go.Proofs.YtcbndkllppmmmaaX
