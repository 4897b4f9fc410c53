/- What was sealed is opened as it was: the walk. -/
import Derived.Test.YtnnaplcddhjfbaaT
import Derived.Test.YtnnaplcddhjfbaaM7
import Derived.Test.YtnnaplcddhjfbaaM8
namespace Go.Proofs.YtnnaplcddhjfbaaX
set_option linter.unusedVariables false
set_option linter.unusedSimpArgs false
open Go Go.RowKit Go.Proofs

attribute [local simp] two_length three_length
set_option maxRecDepth 100000 in
set_option maxHeartbeats 1000000 in
theorem back_spec {w0 w : World} {I : Imm} {L : Own} (hst : St w0 w I L) (a b p n : Int) {v : Value} {bs : List UInt8} (hv : RdB I v bs) (at_ : Int) (c : UInt8) (ha : i64ok a) (hb : i64ok b) (hp : i64ok p) (hn : i64ok n) (hat : i64ok at_) :
    Calls Try.prog 4 #[.int .i64 a, .int .i64 b, .int .i64 p, .int .i64 n, v, .int .i64 at_, .int .u8 (c.toNat : Int)] w fun e w' => e = .returned (.bool true) ∧ ∃ I', I.le I' ∧ St w0 w' I' L := by
  unfold i64ok at ha hb hp hn hat
  refine enter Try.func4 rfl (N := 143) rfl rfl ?_
  simp only [List.zipIdx_cons, List.zipIdx_nil, List.map_cons, List.map_nil, Nat.zero_add, Nat.reduceAdd]
  have hle := Imm.le.refl I
  refine CW.seq ?_
  -- region 0
  refine CW.region ?_
  refine RW.op1 rfl (runs_assign rfl) ?_
  refine RW.done ?_
  refine AQ.next ?_
  refine CW.seq ?_
  -- region 1
  refine CW.region ?_
  refine RW.op1 rfl (runs_assign rfl) ?_
  refine RW.done ?_
  refine AQ.next ?_
  refine CW.seq ?_
  -- region 2
  refine CW.region ?_
  refine RW.op1 rfl (runs_move rfl) ?_
  refine RW.op1 rfl (runs_move rfl) ?_
  refine RW.call rfl call10 rfl rfl (within_spec hst (v := a) (n := 65536) (by unfold i64ok; omega) (by unfold i64ok; omega)) ?_
  rintro e w ⟨rfl, hstn⟩
  clear hst
  have hst := hstn
  clear hstn
  have hw34 := within_range (a) (65536)
  generalize hx34 : within (a) (65536) = x34 at *
  refine ⟨_, rfl, ?_⟩
  refine RW.op1 rfl (runs_move rfl) ?_
  refine RW.op1 rfl (runs_move rfl) ?_
  refine RW.call rfl call10 rfl rfl (within_spec hst (v := b) (n := 16777216) (by unfold i64ok; omega) (by unfold i64ok; omega)) ?_
  rintro e w ⟨rfl, hstn⟩
  clear hst
  have hst := hstn
  clear hstn
  have hw37 := within_range (b) (16777216)
  generalize hx37 : within (b) (16777216) = x37 at *
  refine ⟨_, rfl, ?_⟩
  refine RW.op1 rfl (runs_buildF (cells := [_, _]) bz27 rfl rfl rfl rfl rfl) ?_
  refine RW.opE rfl (runs_alloc ti27 hst) ?_
  rintro _ w ⟨b3, rfl, hstn⟩
  clear hst
  have hst := hstn
  clear hstn
  first
    | refine RW.opE0 (runs_storeW ti27 rfl rfl hst (k := 0) rfl rfl rfl (NoFz.zero _) rfl) ?_
    | refine RW.opE0 (runs_storeP ti27 rfl rfl hst (k := 0) rfl rfl rfl (NoFz.zero _) rfl) ?_
    | refine RW.opE0 (runs_storeW ti27 rfl rfl hst (k := 1) rfl rfl rfl (NoFz.zero _) rfl) ?_
    | refine RW.opE0 (runs_storeP ti27 rfl rfl hst (k := 1) rfl rfl rfl (NoFz.zero _) rfl) ?_
    | refine RW.opE0 (runs_storeW ti27 rfl rfl hst (k := 2) rfl rfl rfl (NoFz.zero _) rfl) ?_
    | refine RW.opE0 (runs_storeP ti27 rfl rfl hst (k := 2) rfl rfl rfl (NoFz.zero _) rfl) ?_
  rintro w hstn
  clear hst
  have hst := hstn
  clear hstn
  try simp only [List.set_cons_zero, List.set_cons_succ] at hst
  refine RW.done ?_
  refine AQ.next ?_
  refine CW.seq ?_
  -- region 3
  refine CW.region ?_
  refine RW.op1 rfl (runs_move rfl) ?_
  refine RW.op1 rfl (runs_move rfl) ?_
  refine RW.call rfl call10 rfl rfl (within_spec hst (v := n) (n := 255) (by unfold i64ok; omega) (by unfold i64ok; omega)) ?_
  rintro e w ⟨rfl, hstn⟩
  clear hst
  have hst := hstn
  clear hstn
  have hw41 := within_range (n) (255)
  generalize hx41 : within (n) (255) = x41 at *
  refine ⟨_, rfl, ?_⟩
  refine RW.op1 rfl (runs_add rfl rfl (by omega)) ?_
  refine RW.op1 rfl (runs_assign rfl) ?_
  refine RW.done ?_
  refine AQ.next ?_
  refine CW.seq ?_
  -- region 4
  refine CW.region ?_
  refine RW.op1 rfl (runs_move rfl) ?_
  refine RW.op1 rfl (runs_move rfl) ?_
  refine RW.op1 rfl (runs_move rfl) ?_
  refine RW.call rfl call10 rfl rfl (within_spec hst (v := p) (n := 1 + x41) (by unfold i64ok; omega) (by unfold i64ok; omega)) ?_
  rintro e w ⟨rfl, hstn⟩
  clear hst
  have hst := hstn
  clear hstn
  have hw46 := within_range (p) (1 + x41)
  generalize hx46 : within (p) (1 + x41) = x46 at *
  refine ⟨_, rfl, ?_⟩
  refine RW.op1 rfl (runs_assign rfl) ?_
  refine RW.done ?_
  refine AQ.next ?_
  refine CW.seq ?_
  -- region 5
  refine CW.region ?_
  refine RW.op1 rfl (runs_move rfl) ?_
  refine RW.call rfl call13 rfl rfl (cut_spec hst hv (n := 19) (by decide)) ?_
  rintro e w ⟨I7, v4, hI7, rfl, hstn, h4⟩
  clear hst
  have hst := hstn
  clear hstn
  have hbo : (bs.take (19 : Int).toNat).length ≤ 19 := by rw [List.length_take]; show min 19 _ ≤ 19; omega
  generalize (bs.take (19 : Int).toNat) = bo at *
  replace hle := hle.trans hI7
  refine ⟨_, rfl, ?_⟩
  refine RW.op1 rfl (runs_assign rfl) ?_
  refine RW.done ?_
  refine AQ.next ?_
  refine CW.seq ?_
  -- region 6
  refine CW.region ?_
  first
    | refine RW.op1 rfl (runs_loadN (vs := [_, _]) ag27 ti27 rfl hst (k := 0) rfl rfl rfl) ?_
    | refine RW.op1 rfl (runs_loadN (vs := [_, _]) ag27 ti27 rfl hst (k := 1) rfl rfl rfl) ?_
    | refine RW.op1 rfl (runs_loadN (vs := [_, _]) ag27 ti27 rfl hst (k := 2) rfl rfl rfl) ?_
  refine RW.op1 rfl (runs_move rfl) ?_
  refine RW.op1 rfl (runs_move rfl) ?_
  refine RW.op1 rfl (runs_move rfl) ?_
  refine RW.call rfl call8 rfl rfl (seal_own hst x34 x37 x46 (1 + x41) h4 (by omega)) ?_
  rintro e w ⟨I8, vS, Lv, hI8, rfl, hstn, hg⟩
  clear hst
  have hst := hstn
  clear hstn
  have hs : sealM x34 x37 x46 (1 + x41) bo = true := sealM_of (by omega) (by omega) (by omega) hbo
  rw [hs] at hg ⊢; simp only [if_true] at hg ⊢
  have hl : (sealB x34 x37 x46 (1 + x41) bo).length = 32 := sealB_length hbo
  have hso := sealB_openOk hs
  replace h4 := h4.mono hI8
  replace hle := hle.trans hI8
  refine ⟨_, rfl, ?_⟩
  refine RW.op1 rfl (runs_move rfl) ?_
  refine RW.op1 rfl (runs_extract rfl rfl) ?_
  refine RW.op1 rfl (runs_extract rfl rfl) ?_
  refine RW.op1 rfl (runs_assign rfl) ?_
  refine RW.op1 rfl (runs_assign rfl) ?_
  refine RW.done ?_
  refine AQ.next ?_
  refine CW.seq ?_
  refine CW.seq ?_
  -- region 7
  refine CW.region ?_
  refine RW.op1 rfl (runs_move rfl) ?_
  refine RW.op1 rfl (runs_neI rfl rfl) ?_
  refine RW.op1 rfl (runs_move rfl) ?_
  have hk59 := (show decide ((0 : Int) ≠ 0) = false from by decide)
  refine RW.on_guard rfl rfl rfl rfl hk59 ?_
  refine RW.op1 rfl (runs_move rfl) ?_
  refine RW.on_guard rfl rfl rfl rfl hk59 ?_
  first
    | refine RW.op1 rfl (RdL.len Try.underlying22 rfl (by assumption)) ?_
    | refine RW.op1 rfl (runs_lenL Try.underlying22 rfl) ?_
    | refine RW.op1 rfl (Grow.len Try.underlying22 rfl (by assumption)) ?_
  refine RW.on_guard rfl rfl rfl rfl hk59 ?_
  refine RW.op1 rfl (runs_neI rfl rfl) ?_
  refine RW.op1 rfl (runs_pick_false rfl hk59 rfl) ?_
  refine RW.done ?_
  refine AQ.next ?_
  refine CW.cond rfl (fun hc => absurd hc (by rw [decide_eq_false (show ¬ (((sealB x34 x37 x46 (1 + x41) bo).length : Nat) : Int) ≠ 32 by omega)]; decide)) (fun hc => ?_)
  refine CW.skip ?_
  refine AQ.next ?_
  refine CW.seq ?_
  -- region 9
  refine CW.region ?_
  obtain ⟨I8, hI8, hstn, hS, back⟩ := GrowB.lend hg hst
  clear hst
  have hst := hstn
  clear hstn
  have h40 := h4
  replace h4 := h4.mono hI8
  have hle0 := hle
  replace hle := hle.trans hI8
  have hlf := Imm.le.refl I8
  refine RW.op1 rfl (runs_move rfl) ?_
  refine RW.call rfl call11 rfl rfl (open_spec hst hS (by omega)) ?_
  rintro e w ⟨I9, v9, hI9, rfl, hstn, hD⟩
  clear hst
  have hst := hstn
  clear hstn
  rw [openR_sealB hs] at hD ⊢
  replace hlf := hlf.trans hI9
  replace h4 := h4.mono hI9
  replace hle := hle.trans hI9
  refine ⟨_, rfl, ?_⟩
  refine RW.op1 rfl (runs_move rfl) ?_
  refine RW.op1 rfl (runs_extract rfl rfl) ?_
  refine RW.op1 rfl (runs_extract rfl rfl) ?_
  refine RW.op1 rfl (runs_extract rfl rfl) ?_
  refine RW.op1 rfl (runs_extract rfl rfl) ?_
  refine RW.op1 rfl (runs_extract rfl rfl) ?_
  refine RW.opE rfl (runs_alloc ti27 hst) ?_
  rintro _ w ⟨b10, rfl, hstn⟩
  clear hst
  have hst := hstn
  clear hstn
  first
    | refine RW.opE0 (runs_storeW ti27 rfl rfl hst (k := 0) rfl rfl rfl (NoFz.zero _) rfl) ?_
    | refine RW.opE0 (runs_storeP ti27 rfl rfl hst (k := 0) rfl rfl rfl (NoFz.zero _) rfl) ?_
    | refine RW.opE0 (runs_storeW ti27 rfl rfl hst (k := 1) rfl rfl rfl (NoFz.zero _) rfl) ?_
    | refine RW.opE0 (runs_storeP ti27 rfl rfl hst (k := 1) rfl rfl rfl (NoFz.zero _) rfl) ?_
    | refine RW.opE0 (runs_storeW ti27 rfl rfl hst (k := 2) rfl rfl rfl (NoFz.zero _) rfl) ?_
    | refine RW.opE0 (runs_storeP ti27 rfl rfl hst (k := 2) rfl rfl rfl (NoFz.zero _) rfl) ?_
  rintro w hstn
  clear hst
  have hst := hstn
  clear hstn
  try simp only [List.set_cons_zero, List.set_cons_succ] at hst
  refine RW.op1 rfl (runs_assign rfl) ?_
  refine RW.op1 rfl (runs_assign rfl) ?_
  refine RW.op1 rfl (runs_assign rfl) ?_
  refine RW.op1 rfl (runs_assign rfl) ?_
  refine RW.done ?_
  refine AQ.next ?_
  refine CW.seq ?_
  refine CW.seq ?_
  -- region 10
  refine CW.region ?_
  refine RW.op1 rfl (runs_move rfl) ?_
  refine RW.op1 rfl (runs_neI rfl rfl) ?_
  refine RW.op1 rfl (runs_move rfl) ?_
  have hk74 := (show decide ((0 : Int) ≠ 0) = false from by decide)
  refine RW.on_guard rfl rfl rfl rfl hk74 ?_
  first
    | refine RW.op1 rfl (runs_loadN (vs := [_, _]) ag27 ti27 rfl hst (k := 0) rfl rfl rfl) ?_
    | refine RW.op1 rfl (runs_loadN (vs := [_, _]) ag27 ti27 rfl hst (k := 1) rfl rfl rfl) ?_
    | refine RW.op1 rfl (runs_loadN (vs := [_, _]) ag27 ti27 rfl hst (k := 2) rfl rfl rfl) ?_
  refine RW.on_guard rfl rfl rfl rfl hk74 ?_
  first
    | refine RW.op1 rfl (runs_loadN (vs := [_, _]) ag27 ti27 rfl hst (k := 0) rfl rfl rfl) ?_
    | refine RW.op1 rfl (runs_loadN (vs := [_, _]) ag27 ti27 rfl hst (k := 1) rfl rfl rfl) ?_
    | refine RW.op1 rfl (runs_loadN (vs := [_, _]) ag27 ti27 rfl hst (k := 2) rfl rfl rfl) ?_
  refine RW.on_guard rfl rfl rfl rfl hk74 ?_
  refine RW.op1 rfl (runs_neZ (xs := [_, _]) (ys := [_, _]) ez27 rfl rfl rfl rfl) ?_
  refine RW.op1 rfl (runs_pick_false rfl hk74 rfl) ?_
  refine RW.op1 rfl (runs_move rfl) ?_
  have hk79 := (show (!decide ([x34, x37] = [x34, x37])) = false by simp)
  refine RW.on_guard rfl rfl rfl rfl hk79 ?_
  refine RW.op1 rfl (runs_move rfl) ?_
  refine RW.on_guard rfl rfl rfl rfl hk79 ?_
  refine RW.op1 rfl (runs_move rfl) ?_
  refine RW.on_guard rfl rfl rfl rfl hk79 ?_
  refine RW.op1 rfl (runs_neI rfl rfl) ?_
  refine RW.op1 rfl (runs_pick_false rfl hk79 rfl) ?_
  refine RW.op1 rfl (runs_move rfl) ?_
  have hk84 := (show decide (x46 ≠ x46) = false by simp)
  refine RW.on_guard rfl rfl rfl rfl hk84 ?_
  refine RW.op1 rfl (runs_move rfl) ?_
  refine RW.on_guard rfl rfl rfl rfl hk84 ?_
  refine RW.op1 rfl (runs_move rfl) ?_
  refine RW.on_guard rfl rfl rfl rfl hk84 ?_
  refine RW.op1 rfl (runs_neI rfl rfl) ?_
  refine RW.op1 rfl (runs_pick_false rfl hk84 rfl) ?_
  refine RW.op1 rfl (runs_move rfl) ?_
  have hk89 := (show decide ((1 + x41) ≠ (1 + x41)) = false by simp)
  refine RW.on_guard rfl rfl rfl rfl hk89 ?_
  refine RW.op1 rfl (runs_move rfl) ?_
  refine RW.on_guard rfl rfl rfl rfl hk89 ?_
  refine RW.op1 rfl (runs_move rfl) ?_
  refine RW.on_guard rfl rfl rfl rfl hk89 ?_
  refine RW.call rfl call9 rfl rfl (same_spec hst hD h4 (by show bo.length ≤ _; omega)) ?_
  rintro e w ⟨rfl, hstn⟩
  clear hst
  have hst := hstn
  clear hstn
  refine ⟨_, rfl, ?_⟩
  refine RW.on_guard rfl rfl rfl rfl hk89 ?_
  refine RW.op1 rfl (runs_not rfl) ?_
  refine RW.op1 rfl (runs_pick_false rfl hk89 rfl) ?_
  refine RW.done ?_
  refine AQ.next ?_
  refine CW.cond rfl (fun hc => absurd hc (by simp)) (fun hc => ?_)
  refine CW.skip ?_
  refine AQ.next ?_
  refine CW.seq ?_
  -- region 12
  refine CW.region ?_
  obtain ⟨I9, hI9, _, hstn⟩ := back _ _ _ hlf hst
  clear hst
  have hst := hstn.perm List.perm_append_comm
  clear hstn hS hD h4 hle
  have h4 := h40.mono hI9
  have hle := hle0.trans hI9
  first
    | refine RW.op1 rfl (runs_fieldAddr0 rfl Try.underlying27 rfl ti3 (by decide)) ?_
    | refine RW.op1 rfl (runs_fieldAddr rfl Try.underlying27 rfl ti3 (by decide)) ?_
  first
    | refine RW.op1 rfl (runs_load1 sc3 rfl (hst.cell_own (k := 0) rfl rfl)) ?_
    | refine RW.op1 rfl (runs_load1 sc3 rfl (hst.cell_own (k := 1) rfl rfl)) ?_
    | refine RW.op1 rfl (runs_load1 sc3 rfl (hst.cell_own (k := 2) rfl rfl)) ?_
  first
    | refine RW.op1 rfl (runs_fieldAddr0 rfl Try.underlying27 rfl ti3 (by decide)) ?_
    | refine RW.op1 rfl (runs_fieldAddr rfl Try.underlying27 rfl ti3 (by decide)) ?_
  first
    | refine RW.op1 rfl (runs_load1 sc3 rfl (hst.cell_own (k := 0) rfl rfl)) ?_
    | refine RW.op1 rfl (runs_load1 sc3 rfl (hst.cell_own (k := 1) rfl rfl)) ?_
    | refine RW.op1 rfl (runs_load1 sc3 rfl (hst.cell_own (k := 2) rfl rfl)) ?_
  refine RW.op1 rfl (runs_xor rfl rfl) ?_
  refine RW.op1 rfl (runs_buildF (cells := [_, _]) bz27 rfl rfl rfl rfl rfl) ?_
  refine RW.op1 rfl (runs_move rfl) ?_
  refine RW.op1 rfl (runs_move rfl) ?_
  refine RW.op1 rfl (runs_move rfl) ?_
  refine RW.call rfl call8 rfl rfl (seal_spec hst x34 (bitop .xor .i64 x37 1) x46 (1 + x41) h4 (by omega)) ?_
  rintro e w ⟨I13, vT, hI13, rfl, hstn, hT⟩
  clear hst
  have hst := hstn
  clear hstn
  obtain ⟨hu1, hu2, hu3⟩ := u8_next (q := x37) (by omega)
  have hs2 : sealM x34 (bitop .xor .i64 x37 1) x46 (1 + x41) bo = true := sealM_of (by omega) (by omega) (by omega) hbo
  rw [hs2] at hT ⊢; simp only [if_true] at hT ⊢
  replace h4 := h4.mono hI13
  replace hle := hle.trans hI13
  refine ⟨_, rfl, ?_⟩
  refine RW.op1 rfl (runs_move rfl) ?_
  refine RW.op1 rfl (runs_extract rfl rfl) ?_
  refine RW.op1 rfl (runs_extract rfl rfl) ?_
  refine RW.op1 rfl (runs_assign rfl) ?_
  refine RW.op1 rfl (runs_assign rfl) ?_
  refine RW.done ?_
  refine AQ.next ?_
  refine CW.seq ?_
  -- region 13
  refine CW.region ?_
  refine RW.opE rfl (runs_lit1R Try.underlying37 ti3 (by decide) rfl rfl rfl (by simp [Value.oneCell']) hst) ?_
  rintro u14 w ⟨I14, hI14, hstn, h14⟩
  clear hst
  have hst := hstn
  clear hstn
  replace h4 := h4.mono hI14
  replace hT := hT.mono hI14
  replace hle := hle.trans hI14
  have hE : RdI _ _ endsL := h14
  refine RW.op1 rfl (runs_assign rfl) ?_
  refine RW.done ?_
  refine AQ.next ?_
  refine CW.seq ?_
  -- region 14
  refine CW.region ?_
  replace hst := hst.perm List.perm_append_comm
  refine RW.op1 rfl (runs_move rfl) ?_
  refine RW.op1 rfl (runs_move rfl) ?_
  refine RW.op1 rfl (runs_move rfl) ?_
  refine RW.op1 rfl (runs_move rfl) ?_
  refine RW.call rfl call10 rfl rfl (within_spec hst (v := at_) (n := 10) (by unfold i64ok; omega) (by unfold i64ok; omega)) ?_
  rintro e w ⟨rfl, hstn⟩
  clear hst
  have hst := hstn
  clear hstn
  have hw113 := within_range (at_) (10)
  generalize hx113 : within (at_) (10) = x113 at *
  refine ⟨_, rfl, ?_⟩
  refine RW.op1 rfl (RdL.indexAddr Try.underlying37 ti3 (by decide) rfl rfl hE (by show 0 ≤ x113 ∧ x113 < 10; omega)) ?_
  refine RW.op1 rfl (runs_load1 sc3 rfl (hst.cell_imm (RdI.at hE (by omega) (by show x113 < 10; omega)))) ?_
  have hpos := ends_ok (i := x113) (by omega)
  obtain ⟨g, cap, cur, rfl, rfl, hcs, hget, hset⟩ := GrowB.opened hg (by omega)
  have hgp := hget (iat endsL x113).toNat (by omega)
  refine RW.op1 rfl (runs_indexAddr0 Try.underlying22 ti5 rfl rfl (by omega)) ?_
  refine RW.op1 rfl (runs_load1 sc5 rfl (hst.cell_own (k := 0) rfl (by rw [Nat.zero_add, Nat.mul_one]; exact hgp))) ?_
  refine RW.op1 rfl (runs_move rfl) ?_
  refine RW.op1 rfl (runs_xor rfl rfl) ?_
  refine RW.op1 rfl (runs_indexAddr0 Try.underlying22 ti5 rfl rfl (by omega)) ?_
  refine RW.opE0 (runs_store1' ti5 rfl rfl hst (k := 0) rfl (by omega) (NoFz.zero _) rfl) ?_
  rintro w hstn
  clear hst
  have hst := hstn
  clear hstn
  try simp only [List.set_cons_zero, List.set_cons_succ] at hst
  rw [xor8] at hst
  simp only [Nat.zero_add, Nat.mul_one, List.cons_append, List.nil_append, List.set_cons_zero] at hst
  obtain ⟨I20, hI20, hstn, hZ⟩ := GrowB.freeze (hset (iat endsL x113).toNat ((sealB x34 x37 x46 (1 + x41) bo).getD (iat endsL x113).toNat 0 ^^^ c) (by omega)) hst
  clear hst
  have hst := hstn
  clear hstn
  replace h4 := h4.mono hI20
  replace hT := hT.mono hI20
  replace hE := hE.mono hI20
  replace hle := hle.trans hI20
  refine RW.done ?_
  refine AQ.next ?_
  refine CW.seq ?_
  -- region 15
  refine CW.region ?_
  refine RW.op1 rfl (runs_move rfl) ?_
  refine RW.call rfl call11 rfl rfl (open_spec hst hZ (by rw [List.length_set]; omega)) ?_
  rintro e w ⟨I17, v17, hI17, rfl, hstn, h17⟩
  clear hst
  have hst := hstn
  clear hstn
  replace hT := hT.mono hI17
  replace hZ := hZ.mono hI17
  replace hle := hle.trans hI17
  refine ⟨_, rfl, ?_⟩
  refine RW.op1 rfl (runs_move rfl) ?_
  refine RW.op1 rfl (runs_extract rfl rfl) ?_
  refine RW.op1 rfl (runs_extract rfl rfl) ?_
  refine RW.op1 rfl (runs_extract rfl rfl) ?_
  refine RW.op1 rfl (runs_extract rfl rfl) ?_
  refine RW.op1 rfl (runs_extract rfl rfl) ?_
  refine RW.opE rfl (runs_alloc ti27 hst) ?_
  rintro _ w ⟨b18, rfl, hstn⟩
  clear hst
  have hst := hstn
  clear hstn
  first
    | refine RW.opE0 (runs_storeW ti27 rfl rfl hst (k := 0) rfl rfl rfl (NoFz.zero _) rfl) ?_
    | refine RW.opE0 (runs_storeP ti27 rfl rfl hst (k := 0) rfl rfl rfl (NoFz.zero _) rfl) ?_
    | refine RW.opE0 (runs_storeW ti27 rfl rfl hst (k := 1) rfl rfl rfl (NoFz.zero _) rfl) ?_
    | refine RW.opE0 (runs_storeP ti27 rfl rfl hst (k := 1) rfl rfl rfl (NoFz.zero _) rfl) ?_
    | refine RW.opE0 (runs_storeW ti27 rfl rfl hst (k := 2) rfl rfl rfl (NoFz.zero _) rfl) ?_
    | refine RW.opE0 (runs_storeP ti27 rfl rfl hst (k := 2) rfl rfl rfl (NoFz.zero _) rfl) ?_
  rintro w hstn
  clear hst
  have hst := hstn
  clear hstn
  try simp only [List.set_cons_zero, List.set_cons_succ] at hst
  refine RW.op1 rfl (runs_assign rfl) ?_
  refine RW.op1 rfl (runs_assign rfl) ?_
  refine RW.op1 rfl (runs_assign rfl) ?_
  refine RW.op1 rfl (runs_assign rfl) ?_
  refine RW.done ?_
  refine AQ.next ?_
  refine CW.seq ?_
  -- region 16
  refine CW.region ?_
  refine RW.op1 rfl (runs_move rfl) ?_
  refine RW.op1 rfl (runs_eqI rfl rfl) ?_
  refine RW.op1 rfl (runs_move rfl) ?_
  refine RW.op1 rfl (runs_eqI rfl rfl) ?_
  refine RW.op1 rfl (runs_eqB Try.underlying4 rfl rfl) ?_
  refine RW.op1 rfl (runs_move rfl) ?_
  have hk134 := (turned_err hso (k := (iat endsL x113).toNat) (by omega) c)
  refine RW.on_guard rfl rfl rfl rfl hk134 ?_
  refine RW.op1 rfl (runs_move rfl) ?_
  refine RW.on_guard rfl rfl rfl rfl hk134 ?_
  refine RW.op1 rfl (runs_move rfl) ?_
  refine RW.on_guard rfl rfl rfl rfl hk134 ?_
  refine RW.call rfl call9 rfl rfl (same_spec hst hZ hT (by rw [List.length_set]; omega)) ?_
  rintro e w ⟨rfl, hstn⟩
  clear hst
  have hst := hstn
  clear hstn
  refine ⟨_, rfl, ?_⟩
  refine RW.on_guard rfl rfl rfl rfl hk134 ?_
  refine RW.op1 rfl (runs_not rfl) ?_
  refine RW.op1 rfl (runs_pick_true rfl hk134 rfl) ?_
  refine RW.op1 rfl (runs_move rfl) ?_
  have hk140 := (show (!decide (((sealB x34 x37 x46 (1 + x41) bo).set (iat endsL x113).toNat ((sealB x34 x37 x46 (1 + x41) bo).getD (iat endsL x113).toNat 0 ^^^ c)) = sealB x34 (bitop .xor .i64 x37 1) x46 (1 + x41) bo)) = true by rw [decide_eq_false (seals_unlike hbo hbo hu1 _ _)]; rfl)
  refine RW.on_guard rfl rfl rfl rfl hk140 ?_
  refine RW.call rfl call12 rfl rfl (wakes_spec hst) ?_
  rintro e w ⟨rfl, I21, hI21, hstn⟩
  clear hst
  have hst := hstn
  clear hstn
  replace hT := hT.mono hI21
  replace hZ := hZ.mono hI21
  replace hle := hle.trans hI21
  refine ⟨_, rfl, ?_⟩
  refine RW.op1 rfl (runs_pick_true rfl hk140 rfl) ?_
  refine RW.op1 rfl (runs_assign rfl) ?_
  refine RW.done ?_
  refine AQ.next ?_
  refine CW.ret ?_
  refine AQ.ret1 rfl rfl ?_
  exact ⟨rfl, _, hle, hst.sub (List.sublist_append_right [_, _, _] _)⟩
end Go.Proofs.YtnnaplcddhjfbaaX
