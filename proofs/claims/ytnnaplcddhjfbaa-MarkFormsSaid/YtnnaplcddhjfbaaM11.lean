/- Sectors by hand, and what may not be sealed: the walk. -/
import Derived.Test.YtnnaplcddhjfbaaT
import Derived.Test.YtnnaplcddhjfbaaM7
import Derived.Test.YtnnaplcddhjfbaaM8
namespace Go.Proofs.YtnnaplcddhjfbaaX
set_option linter.unusedVariables false
set_option linter.unusedSimpArgs false
open Go Go.RowKit Go.Proofs

attribute [local simp] two_length three_length
abbrev FRow := Int × Int × Int × Int × Value × List UInt8
def frow (r : FRow) : List Value := [.int .i64 r.1, .int .i64 r.2.1, .int .i64 r.2.2.1, .int .i64 r.2.2.2.1, r.2.2.2.2.1]
theorem frow_len (r : FRow) : (frow r).length = 5 := rfl
def fbad (I : Imm) (r : FRow) : Prop := sealM r.1 r.2.1 r.2.2.1 r.2.2.2.1 r.2.2.2.2.2 = false ∧ RdB I r.2.2.2.2.1 r.2.2.2.2.2 ∧ r.2.2.2.2.2.length ≤ 2000
def fRows (m : Int) (v u : Value) (b : List UInt8) (k : Nat) : List FRow :=
  [(-m, 0, 0, 1, v, b), (65535 + m, 0, 0, 1, v, b), (0, -m, 0, 1, v, b), (0, 16777215 + m, 0, 1, v, b), (0, 0, -m, 1, v, b), (0, 0, m, m, v, b), (0, 0, 0, 0, v, b), (0, 0, 0, 255 + m, v, b), (0, 0, 0, -m, v, b), (0, 0, 0, 1, u, b ++ List.replicate k 0)]
theorem sealM_not {e s p n : Int} {b : List UInt8} (h : e < 0 ∨ 65536 ≤ e ∨ s < 0 ∨ 16777216 ≤ s ∨ p < 0 ∨ n ≤ p ∨ 255 < n ∨ 19 < b.length) : sealM e s p n b = false := by
  rw [Bool.eq_false_iff]
  intro hm
  have := sealM_parts hm
  omega
theorem fRows_bad {I : Imm} {m : Int} {v u : Value} {b : List UInt8} {k : Nat} (hm : 1 ≤ m ∧ m = k ∧ k ≤ 1000) (hb : b.length = 19) (hv : RdB I v b) (hu : RdB I u (b ++ List.replicate k 0)) : ∀ r ∈ fRows m v u b k, fbad I r := by
  intro r hr
  simp only [fRows, List.mem_cons, List.not_mem_nil, or_false] at hr
  rcases hr with rfl | rfl | rfl | rfl | rfl | rfl | rfl | rfl | rfl | rfl
  all_goals first
    | exact ⟨sealM_not (by dsimp only; omega), hv, by dsimp only; omega⟩
    | exact ⟨sealM_not (by dsimp only; rw [List.length_append, List.length_replicate]; omega), hu, by dsimp only; rw [List.length_append, List.length_replicate]; omega⟩
theorem row_at {rows : List FRow} {k : Nat} {r : FRow} (hr : rows[k]? = some r) : ∀ (j : Nat) (u : Value), (frow r)[j]? = some u → ((rows.map fun r => Value.agg (frow r).toArray).flatMap vcells)[(k : Int).toNat * 5 + j]? = some u := by
  intro j u hj
  have hj5 : j < 5 := (List.getElem?_eq_some_iff.1 hj).1
  have e : (rows.map fun r => Value.agg (frow r).toArray).flatMap vcells = rows.flatMap frow := by
    rw [List.flatMap_map]
    rfl
  rw [e, Int.toNat_natCast, getElem?_flat frow_len rows k j hj5, hr]
  exact hj
set_option maxRecDepth 100000 in
set_option maxHeartbeats 1000000 in
theorem forms_spec {w0 w : World} {I : Imm} {L : Own} (hst : St w0 w I L) (a : Int) (ha : i64ok a) :
    Calls Try.prog 3 #[.int .i64 a] w fun e w' => e = .returned (.bool true) ∧ ∃ I', I.le I' ∧ St w0 w' I' L := by
  unfold i64ok at ha
  refine enter Try.func3 rfl (N := 136) rfl rfl ?_
  simp only [List.zipIdx_cons, List.zipIdx_nil, List.map_cons, List.map_nil, Nat.zero_add, Nat.reduceAdd]
  have hle := Imm.le.refl I
  refine CW.seq ?_
  -- region 0
  refine CW.region ?_
  refine RW.op1 rfl (runs_assign rfl) ?_
  refine RW.done ?_
  refine AQ.next ?_
  refine CW.seq ?_
  -- region 1
  refine CW.region ?_
  refine RW.op1 rfl (runs_buildF (cells := [_, _]) bz27 rfl rfl rfl rfl rfl) ?_
  refine RW.opE rfl (runs_litB (bs := [8, 9, 10]) rfl Try.underlying22 ti5 (by decide) rfl rfl rfl hst) ?_
  rintro u1 w ⟨I1, hI1, hstn, h1⟩
  clear hst
  have hst := hstn
  clear hstn
  replace hle := hle.trans hI1
  refine RW.call rfl call8 rfl rfl (seal_spec (b := [8, 9, 10]) hst 258 197637 6 7 (by assumption) (by decide)) ?_
  rintro e w ⟨I2, vS, hI2, rfl, hstn, hS⟩
  clear hst
  have hst := hstn
  clear hstn
  have hs : sealM 258 197637 6 7 [8, 9, 10] = true := by decide
  rw [hs] at hS ⊢; simp only [if_true] at hS ⊢
  replace h1 := h1.mono hI2
  replace hle := hle.trans hI2
  refine ⟨_, rfl, ?_⟩
  refine RW.op1 rfl (runs_move rfl) ?_
  refine RW.op1 rfl (runs_extract rfl rfl) ?_
  refine RW.op1 rfl (runs_extract rfl rfl) ?_
  refine RW.op1 rfl (runs_assign rfl) ?_
  refine RW.op1 rfl (runs_assign rfl) ?_
  refine RW.done ?_
  refine AQ.next ?_
  refine CW.seq ?_
  -- region 2
  refine CW.region ?_
  refine RW.opE rfl (runs_lit1 (xs := ([1, 2, 3, 4, 5, 6, 7, 3, 8, 9, 10] : List UInt8).map b8) Try.underlying22 ti5 (by decide) rfl rfl rfl (b8_one _) hst) ?_
  rintro u3 w ⟨Lv3, hstn, hg3⟩
  clear hst
  have hst := hstn
  clear hstn
  refine RW.opE rfl (runs_appendZ (m := 16) Try.underlying22 ti5 Try.underlying3 rfl rfl hst (by assumption) (by decide)) ?_
  rintro u4 w ⟨Lv4, hstn, hg4⟩
  clear hst
  have hst := hstn
  clear hstn
  refine RW.op1 rfl (runs_assign rfl) ?_
  refine RW.done ?_
  refine AQ.next ?_
  refine CW.seq ?_
  -- region 3
  refine CW.region ?_
  refine RW.op1 rfl (runs_move rfl) ?_
  refine RW.opE rfl (runs_litB (bs := [3, 4, 5, 1, 2]) rfl Try.underlying22 ti5 (by decide) rfl rfl rfl hst) ?_
  rintro u5 w ⟨I5, hI5, hstn, h5⟩
  clear hst
  have hst := hstn
  clear hstn
  replace h1 := h1.mono hI5
  replace hS := hS.mono hI5
  replace hle := hle.trans hI5
  refine RW.opE rfl (runs_appendB Try.underlying22 ti5 rfl rfl hst (by assumption) (by assumption) (by (try simp) <;> omega)) ?_
  rintro u6 w ⟨Lv6, hstn, hg6⟩
  clear hst
  have hst := hstn
  clear hstn
  obtain ⟨J6, hJ6, hstn, h6⟩ := GrowB.freeze hg6 hst
  clear hst
  have hst := hstn
  clear hstn
  replace h1 := h1.mono hJ6
  replace hS := hS.mono hJ6
  replace h5 := h5.mono hJ6
  replace hle := hle.trans hJ6
  try simp only [List.nil_append] at h6
  have hW := h6
  refine RW.op1 rfl (runs_assign rfl) ?_
  refine RW.done ?_
  refine AQ.next ?_
  refine CW.seq ?_
  refine CW.seq ?_
  -- region 4
  refine CW.region ?_
  refine RW.op1 rfl (runs_move rfl) ?_
  refine RW.op1 rfl (runs_neI rfl rfl) ?_
  refine RW.op1 rfl (runs_move rfl) ?_
  have hk29 := (show decide ((0 : Int) ≠ 0) = false from by decide)
  refine RW.on_guard rfl rfl rfl rfl hk29 ?_
  refine RW.op1 rfl (runs_move rfl) ?_
  refine RW.on_guard rfl rfl rfl rfl hk29 ?_
  refine RW.op1 rfl (runs_move rfl) ?_
  refine RW.on_guard rfl rfl rfl rfl hk29 ?_
  refine RW.call rfl call9 rfl rfl (same_spec hst hS hW (by decide)) ?_
  rintro e w ⟨rfl, hstn⟩
  clear hst
  have hst := hstn
  clear hstn
  refine ⟨_, rfl, ?_⟩
  refine RW.on_guard rfl rfl rfl rfl hk29 ?_
  refine RW.op1 rfl (runs_not rfl) ?_
  refine RW.op1 rfl (runs_pick_false rfl hk29 rfl) ?_
  refine RW.done ?_
  refine AQ.next ?_
  refine CW.cond rfl (fun hc => absurd hc (by decide)) (fun hc => ?_)
  refine CW.skip ?_
  refine AQ.next ?_
  refine CW.seq ?_
  -- region 6
  refine CW.region ?_
  refine RW.op1 rfl (runs_move rfl) ?_
  refine RW.call rfl call10 rfl rfl (within_spec hst (v := a) (n := 1000) (by unfold i64ok; omega) (by unfold i64ok; omega)) ?_
  rintro e w ⟨rfl, hstn⟩
  clear hst
  have hst := hstn
  clear hstn
  have hw36 := within_range a 1000
  generalize hx36 : within a 1000 = x36 at *
  refine ⟨_, rfl, ?_⟩
  refine RW.op1 rfl (runs_add rfl rfl (by omega)) ?_
  obtain ⟨m, hm⟩ : ∃ m : Nat, (1 + x36 : Int) = m := ⟨(1 + x36).toNat, by omega⟩
  rw [hm]
  refine RW.op1 rfl (runs_assign rfl) ?_
  refine RW.done ?_
  refine AQ.next ?_
  refine CW.seq ?_
  -- region 7
  refine CW.region ?_
  refine RW.opE rfl (runs_makeSlice (n := 19) Try.underlying22 ti5 rfl hst (by omega) (by unfold maxLen; omega)) ?_
  rintro _ w ⟨b6, rfl, hstn⟩
  clear hst
  have hst := hstn
  clear hstn
  rw [made_b8] at hst
  obtain ⟨I6, hI6, hstn, hb⟩ := RdB.of_block (n := 19) (by simp) hst (by unfold maxLen; omega)
  clear hst
  have hst := hstn
  clear hstn
  replace hle := hle.trans hI6
  refine RW.op1 rfl (runs_assign rfl) ?_
  refine RW.done ?_
  refine AQ.next ?_
  refine CW.seq ?_
  refine CW.seq ?_
  -- region 8
  refine CW.region ?_
  refine RW.op1 rfl (runs_move rfl) ?_
  refine RW.op1 rfl (runs_neg rfl (by omega)) ?_
  refine RW.op1 rfl (runs_buildF (cells := [_, _]) bz27 rfl rfl rfl rfl rfl) ?_
  refine RW.op1 rfl (runs_move rfl) ?_
  refine RW.op1 rfl (runs_buildF (cells := [_, _, _, _, _]) bz30 rfl rfl rfl rfl rfl) ?_
  refine RW.op1 rfl (runs_move rfl) ?_
  refine RW.op1 rfl (runs_add rfl rfl (by omega)) ?_
  refine RW.op1 rfl (runs_buildF (cells := [_, _]) bz27 rfl rfl rfl rfl rfl) ?_
  refine RW.op1 rfl (runs_move rfl) ?_
  refine RW.op1 rfl (runs_buildF (cells := [_, _, _, _, _]) bz30 rfl rfl rfl rfl rfl) ?_
  refine RW.op1 rfl (runs_move rfl) ?_
  refine RW.op1 rfl (runs_neg rfl (by omega)) ?_
  refine RW.op1 rfl (runs_buildF (cells := [_, _]) bz27 rfl rfl rfl rfl rfl) ?_
  refine RW.op1 rfl (runs_move rfl) ?_
  refine RW.op1 rfl (runs_buildF (cells := [_, _, _, _, _]) bz30 rfl rfl rfl rfl rfl) ?_
  refine RW.op1 rfl (runs_move rfl) ?_
  refine RW.op1 rfl (runs_add rfl rfl (by omega)) ?_
  refine RW.op1 rfl (runs_buildF (cells := [_, _]) bz27 rfl rfl rfl rfl rfl) ?_
  refine RW.op1 rfl (runs_move rfl) ?_
  refine RW.op1 rfl (runs_buildF (cells := [_, _, _, _, _]) bz30 rfl rfl rfl rfl rfl) ?_
  refine RW.op1 rfl (runs_buildF (cells := [_, _]) bz27 rfl rfl rfl rfl rfl) ?_
  refine RW.op1 rfl (runs_move rfl) ?_
  refine RW.op1 rfl (runs_neg rfl (by omega)) ?_
  refine RW.op1 rfl (runs_move rfl) ?_
  refine RW.op1 rfl (runs_buildF (cells := [_, _, _, _, _]) bz30 rfl rfl rfl rfl rfl) ?_
  refine RW.op1 rfl (runs_buildF (cells := [_, _]) bz27 rfl rfl rfl rfl rfl) ?_
  refine RW.op1 rfl (runs_move rfl) ?_
  refine RW.op1 rfl (runs_move rfl) ?_
  refine RW.op1 rfl (runs_move rfl) ?_
  refine RW.op1 rfl (runs_buildF (cells := [_, _, _, _, _]) bz30 rfl rfl rfl rfl rfl) ?_
  refine RW.op1 rfl (runs_buildF (cells := [_, _]) bz27 rfl rfl rfl rfl rfl) ?_
  refine RW.op1 rfl (runs_move rfl) ?_
  refine RW.op1 rfl (runs_buildF (cells := [_, _, _, _, _]) bz30 rfl rfl rfl rfl rfl) ?_
  refine RW.op1 rfl (runs_buildF (cells := [_, _]) bz27 rfl rfl rfl rfl rfl) ?_
  refine RW.op1 rfl (runs_move rfl) ?_
  refine RW.op1 rfl (runs_add rfl rfl (by omega)) ?_
  refine RW.op1 rfl (runs_move rfl) ?_
  refine RW.op1 rfl (runs_buildF (cells := [_, _, _, _, _]) bz30 rfl rfl rfl rfl rfl) ?_
  refine RW.op1 rfl (runs_buildF (cells := [_, _]) bz27 rfl rfl rfl rfl rfl) ?_
  refine RW.op1 rfl (runs_move rfl) ?_
  refine RW.op1 rfl (runs_neg rfl (by omega)) ?_
  refine RW.op1 rfl (runs_move rfl) ?_
  refine RW.op1 rfl (runs_buildF (cells := [_, _, _, _, _]) bz30 rfl rfl rfl rfl rfl) ?_
  refine RW.op1 rfl (runs_buildF (cells := [_, _]) bz27 rfl rfl rfl rfl rfl) ?_
  refine RW.op1 rfl (runs_move rfl) ?_
  refine RW.op1 rfl (runs_move rfl) ?_
  refine RW.opE rfl (runs_appendZF (m := m) (bs := List.replicate 19 0) Try.underlying22 ti5 Try.underlying3 rfl rfl hst hb (by decide) (by simp; omega) (by simp; omega)) ?_
  rintro u85 w ⟨Lv85, hstn, hg85⟩
  clear hst
  have hst := hstn
  clear hstn
  obtain ⟨J85, hJ85, hstn, h85⟩ := GrowB.freeze hg85 hst
  clear hst
  have hst := hstn
  clear hstn
  replace hle := hle.trans hJ85
  replace hb := hb.mono hJ85
  have h85c := h85
  obtain ⟨_, _, A85, cap85, rfl, _, _⟩ := h85c
  refine RW.op1 rfl (runs_buildF (cells := [_, _, _, _, _]) bz30 rfl rfl rfl rfl rfl) ?_
  refine RW.opE rfl (runs_litF (xs := (fRows m _ _ (List.replicate 19 0) m).map fun r => .agg (frow r).toArray) Try.underlying31 ti30 (by decide) rfl rfl rfl rfl rfl hst (by decide)) ?_
  rintro uR w ⟨LvR, hstn, hgR⟩
  clear hst
  have hst := hstn
  clear hstn
  obtain ⟨J, hJ, hstn, hR⟩ := Grow.freeze hgR hst
  clear hst
  have hst := hstn
  clear hstn
  replace hle := hle.trans hJ
  replace hb := hb.mono hJ
  replace h85 := h85.mono hJ
  have hbad := fRows_bad (m := m) (k := m) (by omega) (by simp) hb h85
  have hle0 := hle
  refine RW.op1 rfl (RdL.len Try.underlying31 rfl hR) ?_
  refine RW.op1 rfl (runs_move rfl) ?_
  refine RW.done ?_
  refine AQ.next ?_
  refine CW.block ?_
  -- loop 1
  refine CW.loop (Nat × Imm) (fun x w => J.le x.2 ∧ St w0 w x.2 L ∧ x.1 ≤ 10) (fun x => [(6, .slice (some ⟨b6, 0, none⟩) 19 19), (87, uR), (88, .int .i64 (10 : Nat)), (89, .int .i64 (x.1 : Int))]) (fun x => 10 - x.1) ⟨(0, J), ⟨Imm.le.refl _, hst, by omega⟩, ⟨rfl, rfl, rfl, rfl, trivial⟩⟩ ?_
  rintro ⟨k, I5⟩ w ⟨hle, hstn, hk⟩
  dsimp only at hle hstn hk ⊢
  clear hst
  have hst := hstn
  clear hstn
  have hR5 := RdL.mono hle hR
  replace hb := hb.mono hle
  refine CW.seq ?_
  -- region 9
  refine CW.region ?_
  refine RW.op1 rfl (runs_lss rfl rfl) ?_
  refine RW.done ?_
  refine AQ.next ?_
  refine CW.seq ?_
  refine CW.cond rfl (fun hc90 => ?_) (fun hc90 => ?_)
  · have hcb90 := hc90
    try simp only [decide_eq_true_eq, decide_eq_false_iff_not] at hc90
    obtain ⟨r, hr⟩ : ∃ r, (fRows m (.slice (some ⟨b6, 0, none⟩) 19 19) (.slice A85 (List.replicate 19 (0 : UInt8) ++ List.replicate m 0).length cap85) (List.replicate 19 0) m)[k]? = some r := ⟨_, List.getElem?_eq_getElem (show k < 10 by omega)⟩
    obtain ⟨hr1, hr2, hr3⟩ := hbad r (List.mem_of_getElem? hr)
    replace hr2 := hr2.mono hle
    obtain ⟨e, q, p, n, v, b⟩ := r
    dsimp only at hr1 hr2 hr3
    have hr2c := hr2
    obtain ⟨_, _, Av, capv, rfl, _, _⟩ := hr2c
    refine CW.skip ?_
    refine AQ.next ?_
    refine CW.seq ?_
    refine CW.block ?_
    refine CW.seq ?_
    -- region 10
    refine CW.region ?_
    refine RW.op1 rfl (RdL.indexAddr Try.underlying31 ti30 (by decide) rfl rfl hR5 (by omega)) ?_
    refine RW.op1 rfl (RdL.loadRow (row := frow (e, q, p, n, _, b)) ag30 ti30 rfl hR5 hst rfl (row_at hr)) ?_
    refine RW.opE rfl (runs_alloc ti30 hst) ?_
    rintro _ w ⟨b12, rfl, hstn⟩
    clear hst
    have hst := hstn
    clear hstn
    first
      | refine RW.opE0 (runs_storeW ti30 rfl rfl hst (k := 0) rfl rfl rfl (NoFz.zero _) rfl) ?_
      | refine RW.opE0 (runs_storeP ti30 rfl rfl hst (k := 0) rfl rfl rfl (NoFz.zero _) rfl) ?_
      | refine RW.opE0 (runs_storeW ti30 rfl rfl hst (k := 1) rfl rfl rfl (NoFz.zero _) rfl) ?_
      | refine RW.opE0 (runs_storeP ti30 rfl rfl hst (k := 1) rfl rfl rfl (NoFz.zero _) rfl) ?_
      | refine RW.opE0 (runs_storeW ti30 rfl rfl hst (k := 2) rfl rfl rfl (NoFz.zero _) rfl) ?_
      | refine RW.opE0 (runs_storeP ti30 rfl rfl hst (k := 2) rfl rfl rfl (NoFz.zero _) rfl) ?_
    rintro w hstn
    clear hst
    have hst := hstn
    clear hstn
    try simp only [List.set_cons_zero, List.set_cons_succ] at hst
    refine RW.done ?_
    refine AQ.next ?_
    refine CW.seq ?_
    -- region 11
    refine CW.region ?_
    first
      | refine RW.op1 rfl (runs_fieldAddr0 rfl Try.underlying30 rfl ti27 (by decide)) ?_
      | refine RW.op1 rfl (runs_fieldAddr rfl Try.underlying30 rfl ti27 (by decide)) ?_
    first
      | refine RW.op1 rfl (runs_loadN (vs := [_, _]) ag27 ti27 rfl hst (k := 0) rfl rfl rfl) ?_
      | refine RW.op1 rfl (runs_loadN (vs := [_, _]) ag27 ti27 rfl hst (k := 1) rfl rfl rfl) ?_
      | refine RW.op1 rfl (runs_loadN (vs := [_, _]) ag27 ti27 rfl hst (k := 2) rfl rfl rfl) ?_
    first
      | refine RW.op1 rfl (runs_fieldAddr0 rfl Try.underlying30 rfl ti3 (by decide)) ?_
      | refine RW.op1 rfl (runs_fieldAddr rfl Try.underlying30 rfl ti3 (by decide)) ?_
    first
      | refine RW.op1 rfl (runs_load1 sc3 rfl (hst.cell_own (k := 0) rfl rfl)) ?_
      | refine RW.op1 rfl (runs_load1 sc3 rfl (hst.cell_own (k := 1) rfl rfl)) ?_
      | refine RW.op1 rfl (runs_load1 sc3 rfl (hst.cell_own (k := 2) rfl rfl)) ?_
    first
      | refine RW.op1 rfl (runs_fieldAddr0 rfl Try.underlying30 rfl ti3 (by decide)) ?_
      | refine RW.op1 rfl (runs_fieldAddr rfl Try.underlying30 rfl ti3 (by decide)) ?_
    first
      | refine RW.op1 rfl (runs_load1 sc3 rfl (hst.cell_own (k := 0) rfl rfl)) ?_
      | refine RW.op1 rfl (runs_load1 sc3 rfl (hst.cell_own (k := 1) rfl rfl)) ?_
      | refine RW.op1 rfl (runs_load1 sc3 rfl (hst.cell_own (k := 2) rfl rfl)) ?_
    first
      | refine RW.op1 rfl (runs_fieldAddr0 rfl Try.underlying30 rfl ti22 (by decide)) ?_
      | refine RW.op1 rfl (runs_fieldAddr rfl Try.underlying30 rfl ti22 (by decide)) ?_
    first
      | refine RW.op1 rfl (runs_load1 sc22 rfl (hst.cell_own (k := 0) rfl rfl)) ?_
      | refine RW.op1 rfl (runs_load1 sc22 rfl (hst.cell_own (k := 1) rfl rfl)) ?_
      | refine RW.op1 rfl (runs_load1 sc22 rfl (hst.cell_own (k := 2) rfl rfl)) ?_
    refine RW.call rfl call8 rfl rfl (seal_spec hst e q p n hr2 (by omega)) ?_
    rintro e w ⟨I14, v14, hI14, rfl, hstn, h14⟩
    clear hst
    have hst := hstn
    clear hstn
    rw [hr1] at h14 ⊢; simp only [Bool.false_eq_true, if_false] at h14 ⊢
    replace hb := hb.mono hI14
    replace hle := hle.trans hI14
    refine ⟨_, rfl, ?_⟩
    refine RW.op1 rfl (runs_move rfl) ?_
    refine RW.op1 rfl (runs_extract rfl rfl) ?_
    refine RW.op1 rfl (runs_extract rfl rfl) ?_
    refine RW.op1 rfl (runs_assign rfl) ?_
    refine RW.op1 rfl (runs_assign rfl) ?_
    refine RW.done ?_
    refine AQ.next ?_
    refine CW.seq ?_
    -- region 12
    refine CW.region ?_
    refine RW.op1 rfl (runs_move rfl) ?_
    refine RW.op1 rfl (runs_neI rfl rfl) ?_
    refine RW.op1 rfl (runs_move rfl) ?_
    have hk107 := (show decide ((1 : Int) ≠ 1) = false from by decide)
    refine RW.on_guard rfl rfl rfl rfl hk107 ?_
    refine RW.op1 rfl (runs_move rfl) ?_
    refine RW.on_guard rfl rfl rfl rfl hk107 ?_
    first
      | refine RW.op1 rfl (RdL.len Try.underlying22 rfl (by assumption)) ?_
      | refine RW.op1 rfl (runs_lenL Try.underlying22 rfl) ?_
      | refine RW.op1 rfl (Grow.len Try.underlying22 rfl (by assumption)) ?_
    refine RW.on_guard rfl rfl rfl rfl hk107 ?_
    refine RW.op1 rfl (runs_neI rfl rfl) ?_
    refine RW.op1 rfl (runs_pick_false rfl hk107 rfl) ?_
    refine RW.done ?_
    refine AQ.next ?_
    refine CW.cond rfl (fun hc => absurd hc (by decide)) (fun hc => ?_)
    refine CW.skip ?_
    refine AQ.block_normal ?_
    refine AQ.next ?_
    -- region 14
    refine CW.region ?_
    refine RW.op1 rfl (runs_add rfl rfl (by omega)) ?_
    refine RW.op1 rfl (runs_move rfl) ?_
    refine RW.done ?_
    exact AQ.again (x := (k, I5)) (k + 1, _) ⟨hle, hst.drop1, by omega⟩ ⟨rfl, rfl, rfl, rfl, trivial⟩ (by dsimp only; omega)
  · have hcb90 := hc90
    try simp only [decide_eq_true_eq, decide_eq_false_iff_not] at hc90
    skip
    refine CW.exit ?_
    refine AQ.past_exit ?_
    refine AQ.past_exit ?_
    refine AQ.block_hit ?_
    refine AQ.next ?_
    refine CW.seq ?_
    -- region 15
    refine CW.region ?_
    refine RW.op1 rfl (runs_buildF (cells := [_, _]) bz27 rfl rfl rfl rfl rfl) ?_
    refine RW.op1 rfl (runs_move rfl) ?_
    refine RW.call rfl call8 rfl rfl (seal_spec (b := List.replicate 19 0) hst 65535 16777215 254 255 hb (by decide)) ?_
    rintro e w ⟨I15, v15, hI15, rfl, hstn, h15⟩
    clear hst
    have hst := hstn
    clear hstn
    have hs9 : sealM 65535 16777215 254 255 (List.replicate 19 0) = true := by decide
    rw [hs9] at h15 ⊢; simp only [if_true] at h15 ⊢
    replace hb := hb.mono hI15
    replace hle := hle.trans hI15
    refine ⟨_, rfl, ?_⟩
    refine RW.op1 rfl (runs_move rfl) ?_
    refine RW.op1 rfl (runs_extract rfl rfl) ?_
    refine RW.op1 rfl (runs_extract rfl rfl) ?_
    refine RW.op1 rfl (runs_assign rfl) ?_
    refine RW.done ?_
    refine AQ.next ?_
    refine CW.seq ?_
    -- region 16
    refine CW.region ?_
    refine RW.opE rfl (runs_makeSlice (n := 32) Try.underlying22 ti5 rfl hst (by omega) (by unfold maxLen; omega)) ?_
    rintro _ w ⟨b9, rfl, hstn⟩
    clear hst
    have hst := hstn
    clear hstn
    rw [made_b8] at hst
    obtain ⟨I9, hI9, hstn, h9⟩ := RdB.of_block (n := 32) (by simp) hst (by unfold maxLen; omega)
    clear hst
    have hst := hstn
    clear hstn
    replace hle := hle.trans hI9
    refine RW.call rfl call11 rfl rfl (open_spec (s := List.replicate 32 0) hst h9 (by decide)) ?_
    rintro e w ⟨I17, v17, hI17, rfl, hstn, h17⟩
    clear hst
    have hst := hstn
    clear hstn
    rw [openR_bad (show openOk (List.replicate 32 0) = false by decide)] at h17 ⊢
    replace hle := hle.trans hI17
    refine ⟨_, rfl, ?_⟩
    refine RW.op1 rfl (runs_move rfl) ?_
    refine RW.op1 rfl (runs_extract rfl rfl) ?_
    refine RW.op1 rfl (runs_extract rfl rfl) ?_
    refine RW.op1 rfl (runs_extract rfl rfl) ?_
    refine RW.op1 rfl (runs_extract rfl rfl) ?_
    refine RW.op1 rfl (runs_extract rfl rfl) ?_
    refine RW.opE rfl (runs_alloc ti27 hst) ?_
    rintro _ w ⟨b18, rfl, hstn⟩
    clear hst
    have hst := hstn
    clear hstn
    first
      | refine RW.opE0 (runs_storeW ti27 rfl rfl hst (k := 0) rfl rfl rfl (NoFz.zero _) rfl) ?_
      | refine RW.opE0 (runs_storeP ti27 rfl rfl hst (k := 0) rfl rfl rfl (NoFz.zero _) rfl) ?_
      | refine RW.opE0 (runs_storeW ti27 rfl rfl hst (k := 1) rfl rfl rfl (NoFz.zero _) rfl) ?_
      | refine RW.opE0 (runs_storeP ti27 rfl rfl hst (k := 1) rfl rfl rfl (NoFz.zero _) rfl) ?_
      | refine RW.opE0 (runs_storeW ti27 rfl rfl hst (k := 2) rfl rfl rfl (NoFz.zero _) rfl) ?_
      | refine RW.opE0 (runs_storeP ti27 rfl rfl hst (k := 2) rfl rfl rfl (NoFz.zero _) rfl) ?_
    rintro w hstn
    clear hst
    have hst := hstn
    clear hstn
    try simp only [List.set_cons_zero, List.set_cons_succ] at hst
    refine RW.op1 rfl (runs_assign rfl) ?_
    refine RW.op1 rfl (runs_assign rfl) ?_
    refine RW.op1 rfl (runs_assign rfl) ?_
    refine RW.op1 rfl (runs_assign rfl) ?_
    refine RW.done ?_
    refine AQ.next ?_
    refine CW.seq ?_
    -- region 17
    refine CW.region ?_
    refine RW.op1 rfl (runs_move rfl) ?_
    refine RW.op1 rfl (runs_eqI rfl rfl) ?_
    refine RW.op1 rfl (runs_move rfl) ?_
    have hk129 := (show decide ((0 : Int) = 0) = true from by decide)
    refine RW.on_guard rfl rfl rfl rfl hk129 ?_
    refine RW.op1 rfl (runs_move rfl) ?_
    refine RW.on_guard rfl rfl rfl rfl hk129 ?_
    refine RW.op1 rfl (runs_eqI rfl rfl) ?_
    refine RW.op1 rfl (runs_pick_true rfl hk129 rfl) ?_
    refine RW.op1 rfl (runs_move rfl) ?_
    have hk133 := (show decide ((2 : Int) = 2) = true from by decide)
    refine RW.on_guard rfl rfl rfl rfl hk133 ?_
    refine RW.call rfl call12 rfl rfl (wakes_spec hst) ?_
    rintro e w ⟨rfl, I20, hI20, hstn⟩
    clear hst
    have hst := hstn
    clear hstn
    replace hle := hle.trans hI20
    refine ⟨_, rfl, ?_⟩
    refine RW.op1 rfl (runs_pick_true rfl hk133 rfl) ?_
    refine RW.op1 rfl (runs_assign rfl) ?_
    refine RW.done ?_
    refine AQ.next ?_
    refine CW.ret ?_
    refine AQ.ret1 rfl rfl ?_
    exact ⟨rfl, _, hle0.trans hle, hst.drop1⟩
end Go.Proofs.YtnnaplcddhjfbaaX
