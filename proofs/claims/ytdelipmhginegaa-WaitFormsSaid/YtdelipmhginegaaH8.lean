/- Waits by hand: the walk. -/
import Derived.Test.YtdelipmhginegaaT
import Derived.Test.YtdelipmhginegaaH5
namespace Go.Proofs.YtdelipmhginegaaX
set_option linter.unusedVariables false
set_option linter.unusedSimpArgs false
open Go Go.RowKit Go.Proofs

def retryB : ByteArray := ⟨#[82, 69, 84, 82, 89, 45, 97, 102, 116, 101, 114]⟩
def rowsF : List (ByteArray × Int) := [(⟨#[]⟩, 4), (⟨#[51]⟩, 4), (⟨#[53]⟩, 5), (⟨#[49, 54]⟩, 16), (⟨#[49, 55]⟩, 16), (⟨#[57, 57, 57, 57, 57, 57]⟩, 16), (⟨#[49, 50, 51, 52, 53, 54, 55]⟩, 4), (⟨#[53, 32]⟩, 4), (⟨#[120]⟩, 4), (⟨#[45, 53]⟩, 4), (⟨#[48]⟩, 4)]
def frow (r : ByteArray × Int) : List Value := [.string r.1, .int .i64 r.2]
theorem frow_len (r : ByteArray × Int) : (frow r).length = 2 := rfl
theorem rowsF_ok : ∀ r ∈ rowsF, afterR 2 [(retryB, r.1)] = r.2 := by
  unfold afterR askedR getH
  simp only [List.find?_cons, List.find?_nil, lowEq, ByteArray.toList_eq]
  decide +kernel
theorem rowsF_small : ∀ r ∈ rowsF, r.1.size ≤ 7 := by decide
def waitsF : List Int := [1, 2, 4, 8, 16, 16, 16]
theorem waitsF_ok : ∀ k, k < 7 → delayR ((k : Nat) : Int) = iat waitsF (k : Int) := by decide
theorem codes_iff (c : Int) : c ∈ codesR ↔ (c = 408 ∨ c = 429 ∨ c = 500 ∨ 502 ≤ c ∧ c ≤ 504) := by
  unfold codesR
  simp only [List.mem_cons, List.not_mem_nil, or_false]
  omega
theorem codes_b {c : Int} {b : Bool} (h : b = true ↔ (c = 408 ∨ c = 429 ∨ c = 500 ∨ 502 ≤ c ∧ c ≤ 504)) : some (Value.bool b) = some (Value.bool (decide (c ∈ codesR))) := by
  rw [← codes_iff] at h
  congr 2
  cases b
  · rw [decide_eq_false (fun hc => by cases h.2 hc)]
  · rw [decide_eq_true (h.1 rfl)]
set_option maxRecDepth 100000 in
set_option maxHeartbeats 1000000 in
theorem wforms_spec {w0 w : World} {I : Imm} {L : Own} (hst : St w0 w I L) (n : Int) (hn : i64ok n) :
    Calls Try.prog 4 #[.int .i64 n] w fun e w' => e = .returned (.bool true) ∧ ∃ I', I.le I' ∧ St w0 w' I' L := by
  refine enter Try.func4 rfl (N := 85) rfl rfl ?_
  simp only [List.zipIdx_cons, List.zipIdx_nil, List.map_cons, List.map_nil, Nat.zero_add, Nat.reduceAdd]
  have hle := Imm.le.refl I
  refine CW.seq ?_
  -- region 0
  refine CW.region ?_
  refine RW.op1 rfl (runs_assign rfl) ?_
  refine RW.done ?_
  refine AQ.next ?_
  refine CW.seq ?_
  refine CW.seq ?_
  -- region 1
  refine CW.region ?_
  refine RW.opE rfl (runs_lit1R Try.underlying22 ti3 (by decide) rfl rfl rfl (by simp [Value.oneCell']) hst) ?_
  rintro u1 w ⟨I1, hI1, hstn, h1⟩
  clear hst
  have hst := hstn
  clear hstn
  replace hle := hle.trans hI1
  have hW : RdI _ u1 waitsF := h1
  refine RW.op1 rfl (RdL.len Try.underlying22 rfl hW) ?_
  refine RW.op1 rfl (runs_move rfl) ?_
  refine RW.done ?_
  refine AQ.next ?_
  refine CW.block ?_
  -- loop 1
  refine CW.loop Nat (fun k w => St w0 w I1 L ∧ k ≤ 7) (fun k => [(0, .int .i64 n), (9, u1), (10, .int .i64 (7 : Nat)), (11, .int .i64 (k : Int))]) (fun k => 7 - k) ⟨0, ⟨hst, Nat.zero_le _⟩, ⟨rfl, rfl, rfl, rfl, trivial⟩⟩ ?_
  rintro k w ⟨hstn, hk⟩
  clear hst
  have hst := hstn
  clear hstn
  refine CW.seq ?_
  -- region 2
  refine CW.region ?_
  refine RW.op1 rfl (runs_lss rfl rfl) ?_
  refine RW.done ?_
  refine AQ.next ?_
  refine CW.seq ?_
  refine CW.cond rfl (fun hc12 => ?_) (fun hc12 => ?_)
  · have hcb12 := hc12
    try simp only [decide_eq_true_eq, decide_eq_false_iff_not] at hc12
    have hk1 : k < 7 := by omega
    have hwk := waitsF_ok k hk1
    refine CW.skip ?_
    refine AQ.next ?_
    refine CW.seq ?_
    refine CW.block ?_
    refine CW.seq ?_
    -- region 3
    refine CW.region ?_
    refine RW.op1 rfl (runs_move rfl) ?_
    refine RW.op1 rfl (RdL.indexAddr Try.underlying22 ti3 (by decide) rfl rfl hW (by show 0 ≤ (k : Int) ∧ (k : Int) < 7; omega)) ?_
    refine RW.op1 rfl (runs_load1 sc3 rfl (hst.cell_imm (RdI.at hW (by omega) (by show (k : Int) < 7; omega)))) ?_
    refine RW.op1 rfl (runs_assign rfl) ?_
    refine RW.op1 rfl (runs_assign rfl) ?_
    refine RW.done ?_
    refine AQ.next ?_
    refine CW.seq ?_
    -- region 4
    refine CW.region ?_
    refine RW.op1 rfl (runs_move rfl) ?_
    refine RW.call rfl call11 rfl rfl (delay_spec hst (k : Int)) ?_
    rintro e w ⟨rfl, hstn⟩
    clear hst
    have hst := hstn
    clear hstn
    refine ⟨_, rfl, ?_⟩
    refine RW.op1 rfl (runs_move rfl) ?_
    refine RW.op1 rfl (runs_neI rfl rfl) ?_
    refine RW.done ?_
    refine AQ.next ?_
    refine CW.cond rfl (fun hc => absurd hc (by rw [hwk]; simp)) (fun hc => ?_)
    refine CW.skip ?_
    refine AQ.block_normal ?_
    refine AQ.next ?_
    -- region 6
    refine CW.region ?_
    refine RW.op1 rfl (runs_add rfl rfl (by omega)) ?_
    refine RW.op1 rfl (runs_move rfl) ?_
    refine RW.done ?_
    exact AQ.again (x := k) (k + 1) ⟨hst, by omega⟩ ⟨rfl, rfl, rfl, rfl, trivial⟩ (by omega)
  · have hcb12 := hc12
    try simp only [decide_eq_true_eq, decide_eq_false_iff_not] at hc12
    skip
    refine CW.exit ?_
    refine AQ.past_exit ?_
    refine AQ.past_exit ?_
    refine AQ.block_hit ?_
    refine AQ.next ?_
    refine CW.seq ?_
    refine CW.seq ?_
    -- region 7
    refine CW.region ?_
    refine RW.op1 rfl (runs_buildF (cells := [_, _]) bz34 rfl rfl rfl rfl rfl) ?_
    refine RW.op1 rfl (runs_buildF (cells := [_, _]) bz34 rfl rfl rfl rfl rfl) ?_
    refine RW.op1 rfl (runs_buildF (cells := [_, _]) bz34 rfl rfl rfl rfl rfl) ?_
    refine RW.op1 rfl (runs_buildF (cells := [_, _]) bz34 rfl rfl rfl rfl rfl) ?_
    refine RW.op1 rfl (runs_buildF (cells := [_, _]) bz34 rfl rfl rfl rfl rfl) ?_
    refine RW.op1 rfl (runs_buildF (cells := [_, _]) bz34 rfl rfl rfl rfl rfl) ?_
    refine RW.op1 rfl (runs_buildF (cells := [_, _]) bz34 rfl rfl rfl rfl rfl) ?_
    refine RW.op1 rfl (runs_buildF (cells := [_, _]) bz34 rfl rfl rfl rfl rfl) ?_
    refine RW.op1 rfl (runs_buildF (cells := [_, _]) bz34 rfl rfl rfl rfl rfl) ?_
    refine RW.op1 rfl (runs_buildF (cells := [_, _]) bz34 rfl rfl rfl rfl rfl) ?_
    refine RW.op1 rfl (runs_buildF (cells := [_, _]) bz34 rfl rfl rfl rfl rfl) ?_
    refine RW.opE rfl (runs_litF (xs := [.agg #[_, _], .agg #[_, _], .agg #[_, _], .agg #[_, _], .agg #[_, _], .agg #[_, _], .agg #[_, _], .agg #[_, _], .agg #[_, _], .agg #[_, _], .agg #[_, _]]) Try.underlying35 ti34 (by decide) rfl rfl rfl rfl rfl hst (by decide)) ?_
    rintro u3 w ⟨Lv3, hstn, hg3⟩
    clear hst
    have hst := hstn
    clear hstn
    obtain ⟨J3, hJ3, hstn, h3⟩ := Grow.freeze hg3 hst
    clear hst
    have hst := hstn
    clear hstn
    replace hle := hle.trans hJ3
    try simp only [List.nil_append] at h3
    obtain ⟨vR, hvR⟩ : ∃ v, v = u3 := ⟨_, rfl⟩
    replace h3 : RdL _ 2 u3 rowsF.length (rowsF.flatMap frow) := h3
    rw [← hvR] at h3 ⊢
    have hR := h3
    refine RW.op1 rfl (RdL.len Try.underlying35 rfl hR) ?_
    refine RW.op1 rfl (runs_move rfl) ?_
    refine RW.done ?_
    refine AQ.next ?_
    refine CW.block ?_
    -- loop 2
    refine CW.loop (Nat × Imm) (fun x w => I.le x.2 ∧ St w0 w x.2 L ∧ RdL x.2 2 vR rowsF.length (rowsF.flatMap frow) ∧ x.1 ≤ 11) (fun x => [(0, .int .i64 n), (32, vR), (33, .int .i64 (11 : Nat)), (34, .int .i64 (x.1 : Int))]) (fun x => 11 - x.1) ⟨(0, _), ⟨hle, hst, hR, Nat.zero_le _⟩, ⟨rfl, rfl, rfl, rfl, trivial⟩⟩ ?_
    clear hR hle
    rintro ⟨j, I8⟩ w ⟨hle, hstn, hR, hj⟩
    dsimp only at hle hstn hR hj ⊢
    clear hst
    have hst := hstn
    clear hstn
    refine CW.seq ?_
    -- region 8
    refine CW.region ?_
    refine RW.op1 rfl (runs_lss rfl rfl) ?_
    refine RW.done ?_
    refine AQ.next ?_
    refine CW.seq ?_
    refine CW.cond rfl (fun hc35 => ?_) (fun hc35 => ?_)
    · have hcb35 := hc35
      try simp only [decide_eq_true_eq, decide_eq_false_iff_not] at hc35
      have hj1 : j < rowsF.length := by show j < 11; omega
      obtain ⟨r, hr⟩ : ∃ r, rowsF[j] = r := ⟨_, rfl⟩
      have hrm : r ∈ rowsF := by rw [← hr]; exact List.getElem_mem _
      have hrs := rowsF_small r hrm
      have hro := rowsF_ok r hrm
      have hra : ∀ (i : Nat) (u : Value), (frow r)[i]? = some u → (rowsF.flatMap frow)[(j : Int).toNat * 2 + i]? = some u := by
        intro i u hi
        have h2 : i < 2 := (List.getElem?_eq_some_iff.1 hi).1
        rw [Int.toNat_natCast, getElem?_flat frow_len rowsF j i h2, List.getElem?_eq_getElem hj1, hr]
        exact hi
      refine CW.skip ?_
      refine AQ.next ?_
      refine CW.seq ?_
      refine CW.block ?_
      refine CW.seq ?_
      -- region 9
      refine CW.region ?_
      refine RW.op1 rfl (RdL.indexAddr Try.underlying35 ti34 (by decide) rfl rfl hR (by show 0 ≤ (j : Int) ∧ (j : Int) < 11; omega)) ?_
      refine RW.op1 rfl (RdL.loadRow (row := frow r) ag34 ti34 rfl hR hst rfl hra) ?_
      refine RW.opE rfl (runs_alloc ti34 hst) ?_
      rintro _ w ⟨b4, rfl, hstn⟩
      clear hst
      have hst := hstn
      clear hstn
      first
        | refine RW.opE0 (runs_storeW ti34 rfl rfl hst (k := 0) rfl rfl rfl (NoFz.zero _) rfl) ?_
        | refine RW.opE0 (runs_storeP ti34 rfl rfl hst (k := 0) rfl rfl rfl (NoFz.zero _) rfl) ?_
        | refine RW.opE0 (runs_storeW ti34 rfl rfl hst (k := 1) rfl rfl rfl (NoFz.zero _) rfl) ?_
        | refine RW.opE0 (runs_storeP ti34 rfl rfl hst (k := 1) rfl rfl rfl (NoFz.zero _) rfl) ?_
        | refine RW.opE0 (runs_storeW ti34 rfl rfl hst (k := 2) rfl rfl rfl (NoFz.zero _) rfl) ?_
        | refine RW.opE0 (runs_storeP ti34 rfl rfl hst (k := 2) rfl rfl rfl (NoFz.zero _) rfl) ?_
      rintro w hstn
      clear hst
      have hst := hstn
      clear hstn
      try simp only [List.set_cons_zero, List.set_cons_succ] at hst
      refine RW.done ?_
      refine AQ.next ?_
      refine CW.seq ?_
      -- region 10
      refine CW.drawSt hst (.q 0 (.q 1 (.q 2 (.q 5 (.q 6 (.l 3 (.l 4 (.q 7 .nil)))))))) follows (by kernel_rfl) (fun w hst => ?_)
      first
        | refine DRW.q rfl rfl (fun w' hF => runs_fieldAddr0 rfl Try.underlying34 rfl ti9 (by decide)) ?_
        | refine DRW.q rfl rfl (fun w' hF => runs_fieldAddr rfl Try.underlying34 rfl ti9 (by decide)) ?_
      first
        | refine DRW.q rfl rfl (FSt.load1_own sc9 rfl (k := 0) rfl rfl) ?_
        | refine DRW.q rfl rfl (FSt.load1_own sc9 rfl (k := 1) rfl rfl) ?_
        | refine DRW.q rfl rfl (FSt.load1_own sc9 rfl (k := 2) rfl rfl) ?_
      refine DRW.q rfl rfl (fun w' hF => runs_buildF (cells := [_, _]) bz28 rfl rfl rfl rfl rfl) ?_
      first
        | refine DRW.q rfl rfl (fun w' hF => runs_fieldAddr0 rfl Try.underlying34 rfl ti3 (by decide)) ?_
        | refine DRW.q rfl rfl (fun w' hF => runs_fieldAddr rfl Try.underlying34 rfl ti3 (by decide)) ?_
      first
        | refine DRW.q rfl rfl (FSt.load1_own sc3 rfl (k := 0) rfl rfl) ?_
        | refine DRW.q rfl rfl (FSt.load1_own sc3 rfl (k := 1) rfl rfl) ?_
        | refine DRW.q rfl rfl (FSt.load1_own sc3 rfl (k := 2) rfl rfl) ?_
      refine DRW.opE rfl rfl (runs_litF (xs := [.agg #[_, _]]) Try.underlying24 ti28 (by decide) rfl rfl rfl rfl rfl hst (by decide)) ?_
      rintro u6 w ⟨Lv6, hstn, hg6⟩
      clear hst
      have hst := hstn
      clear hstn
      refine ⟨FSt.of hst (Imm.le.refl _) (by first | exact (List.sublist_cons_self _ _).trans (List.sublist_append_right _ _) | exact List.Sublist.refl _ | exact List.sublist_cons_self _ _ | exact List.sublist_append_right _ _ | exact (List.sublist_cons_self _ _).trans (List.sublist_cons_self _ _) | exact (List.sublist_append_right _ _).trans (List.sublist_cons_self _ _) | simp), ?_⟩
      obtain ⟨J6, hJ6, hstn, h6⟩ := Grow.freeze hg6 hst
      clear hst
      have hst := hstn
      clear hstn
      replace hR := hR.mono hJ6
      replace hle := hle.trans hJ6
      try simp only [List.nil_append] at h6
      replace h6 : RdH _ u6 [(retryB, r.1)] := h6
      have hH := h6
      refine DRW.call rfl rfl call12 rfl rfl (after_spec hst 2 hH (by intro q hq; rw [List.mem_singleton.1 hq]; show retryB.size ≤ _; decide) (by intro q hq; rw [List.mem_singleton.1 hq]; show r.1.size ≤ _; omega) (by show 1 ≤ 1000000; decide)) ?_
      rintro e w ⟨I7, hI7, rfl, hstn⟩
      clear hst
      have hst := hstn
      clear hstn
      replace hR := hR.mono hI7
      replace h6 := h6.mono hI7
      replace hH := hH.mono hI7
      replace hle := hle.trans hI7
      refine ⟨_, rfl, FSt.of hst (hJ6.trans hI7) (by first | exact (List.sublist_cons_self _ _).trans (List.sublist_append_right _ _) | exact List.Sublist.refl _ | exact List.sublist_cons_self _ _ | exact List.sublist_append_right _ _ | exact (List.sublist_cons_self _ _).trans (List.sublist_cons_self _ _) | exact (List.sublist_append_right _ _).trans (List.sublist_cons_self _ _) | simp), ?_⟩
      refine DRW.q rfl rfl (fun w' hF => runs_neI rfl rfl) ?_
      refine DRW.done ?_
      refine AQ.next ?_
      refine CW.cond rfl (fun hc => absurd hc (by rw [hro]; simp)) (fun hc => ?_)
      refine CW.skip ?_
      refine AQ.block_normal ?_
      refine AQ.next ?_
      -- region 12
      refine CW.region ?_
      refine RW.op1 rfl (runs_add rfl rfl (by omega)) ?_
      refine RW.op1 rfl (runs_move rfl) ?_
      refine RW.done ?_
      exact AQ.again (x := (j, I8)) (j + 1, _) ⟨hle, hst.drop1, hR, by omega⟩ ⟨rfl, rfl, rfl, rfl, trivial⟩ (by dsimp only; omega)
    · have hcb35 := hc35
      try simp only [decide_eq_true_eq, decide_eq_false_iff_not] at hc35
      skip
      refine CW.exit ?_
      refine AQ.past_exit ?_
      refine AQ.past_exit ?_
      refine AQ.block_hit ?_
      refine AQ.next ?_
      refine CW.seq ?_
      -- region 13
      refine CW.region ?_
      refine RW.op1 rfl (runs_move rfl) ?_
      refine RW.call rfl call8 rfl rfl (within_spec hst (v := n) (n := 700) hn (by unfold i64ok; decide)) ?_
      rintro e w ⟨rfl, hstn⟩
      clear hst
      have hst := hstn
      clear hstn
      have hw := within_range n 700
      generalize hx : within n 700 = c at *
      refine ⟨_, rfl, ?_⟩
      refine RW.op1 rfl (runs_assign rfl) ?_
      refine RW.done ?_
      refine AQ.next ?_
      refine CW.seq ?_
      -- region 14
      refine CW.cut Unit (fun _ w => St w0 w I8 L) (fun _ => [(7, .int .i64 c), (8, .bool (decide (c ∈ codesR)))]) ?_ ?_
      · -- region 14
        refine CW.region ?_
        refine RW.op1 rfl (runs_move rfl) ?_
        refine RW.op1 rfl (runs_eqI rfl rfl) ?_
        refine RW.op1 rfl (runs_move rfl) ?_
        refine RW.split (t := 51) rfl (fun hb51 => ?_) (fun hb51 => ?_)
        · have hb51p := hb51
          try simp only [decide_eq_true_eq, decide_eq_false_iff_not] at hb51p
          refine RW.off_guard rfl rfl rfl rfl hb51 ?_
          refine RW.off_guard rfl rfl rfl rfl hb51 ?_
          refine RW.op1 rfl (runs_pick_true rfl hb51 rfl) ?_
          refine RW.op1 rfl (runs_move rfl) ?_
          refine RW.off_guard rfl rfl rfl rfl rfl ?_
          refine RW.off_guard rfl rfl rfl rfl rfl ?_
          refine RW.op1 rfl (runs_pick_true rfl rfl rfl) ?_
          refine RW.op1 rfl (runs_move rfl) ?_
          refine RW.off_guard rfl rfl rfl rfl rfl ?_
          refine RW.off_guard rfl rfl rfl rfl rfl ?_
          refine RW.off_guard rfl rfl rfl rfl rfl ?_
          refine RW.off_undef rfl rfl rfl rfl ?_
          refine RW.off_undef rfl rfl rfl rfl ?_
          refine RW.off_guard rfl rfl rfl rfl rfl ?_
          refine RW.op1 rfl (runs_pick_true rfl rfl rfl) ?_
          refine RW.op1 rfl (runs_assign rfl) ?_
          refine RW.done ?_
          exact AQ.meet () hst ⟨rfl, codes_b (by simp only [decide_eq_true_eq, true_iff, Bool.false_eq_true, false_iff]; omega), trivial⟩
        · have hb51p := hb51
          try simp only [decide_eq_true_eq, decide_eq_false_iff_not] at hb51p
          refine RW.on_guard rfl rfl rfl rfl hb51 ?_
          refine RW.op1 rfl (runs_move rfl) ?_
          refine RW.on_guard rfl rfl rfl rfl hb51 ?_
          refine RW.op1 rfl (runs_eqI rfl rfl) ?_
          refine RW.op1 rfl (runs_pick_false rfl hb51 rfl) ?_
          refine RW.op1 rfl (runs_move rfl) ?_
          refine RW.split (t := 55) rfl (fun hb55 => ?_) (fun hb55 => ?_)
          · have hb55p := hb55
            try simp only [decide_eq_true_eq, decide_eq_false_iff_not] at hb55p
            refine RW.off_guard rfl rfl rfl rfl hb55 ?_
            refine RW.off_guard rfl rfl rfl rfl hb55 ?_
            refine RW.op1 rfl (runs_pick_true rfl hb55 rfl) ?_
            refine RW.op1 rfl (runs_move rfl) ?_
            refine RW.off_guard rfl rfl rfl rfl rfl ?_
            refine RW.off_guard rfl rfl rfl rfl rfl ?_
            refine RW.off_guard rfl rfl rfl rfl rfl ?_
            refine RW.off_undef rfl rfl rfl rfl ?_
            refine RW.off_undef rfl rfl rfl rfl ?_
            refine RW.off_guard rfl rfl rfl rfl rfl ?_
            refine RW.op1 rfl (runs_pick_true rfl rfl rfl) ?_
            refine RW.op1 rfl (runs_assign rfl) ?_
            refine RW.done ?_
            exact AQ.meet () hst ⟨rfl, codes_b (by simp only [decide_eq_true_eq, true_iff, Bool.false_eq_true, false_iff]; omega), trivial⟩
          · have hb55p := hb55
            try simp only [decide_eq_true_eq, decide_eq_false_iff_not] at hb55p
            refine RW.on_guard rfl rfl rfl rfl hb55 ?_
            refine RW.op1 rfl (runs_move rfl) ?_
            refine RW.on_guard rfl rfl rfl rfl hb55 ?_
            refine RW.op1 rfl (runs_eqI rfl rfl) ?_
            refine RW.op1 rfl (runs_pick_false rfl hb55 rfl) ?_
            refine RW.op1 rfl (runs_move rfl) ?_
            refine RW.split (t := 59) rfl (fun hb59 => ?_) (fun hb59 => ?_)
            · have hb59p := hb59
              try simp only [decide_eq_true_eq, decide_eq_false_iff_not] at hb59p
              refine RW.off_guard rfl rfl rfl rfl hb59 ?_
              refine RW.off_guard rfl rfl rfl rfl hb59 ?_
              refine RW.off_guard rfl rfl rfl rfl hb59 ?_
              refine RW.off_undef rfl rfl rfl rfl ?_
              refine RW.off_undef rfl rfl rfl rfl ?_
              refine RW.off_guard rfl rfl rfl rfl hb59 ?_
              refine RW.op1 rfl (runs_pick_true rfl hb59 rfl) ?_
              refine RW.op1 rfl (runs_assign rfl) ?_
              refine RW.done ?_
              exact AQ.meet () hst ⟨rfl, codes_b (by simp only [decide_eq_true_eq, true_iff, Bool.false_eq_true, false_iff]; omega), trivial⟩
            · have hb59p := hb59
              try simp only [decide_eq_true_eq, decide_eq_false_iff_not] at hb59p
              refine RW.on_guard rfl rfl rfl rfl hb59 ?_
              refine RW.op1 rfl (runs_move rfl) ?_
              refine RW.on_guard rfl rfl rfl rfl hb59 ?_
              refine RW.op1 rfl (runs_geq rfl rfl) ?_
              refine RW.on_guard rfl rfl rfl rfl hb59 ?_
              refine RW.op1 rfl (runs_move rfl) ?_
              refine RW.split (t := 62) rfl (fun hb62 => ?_) (fun hb62 => ?_)
              · have hb62p := hb62
                try simp only [decide_eq_true_eq, decide_eq_false_iff_not] at hb62p
                refine RW.on_guard rfl rfl rfl rfl hb62 ?_
                refine RW.op1 rfl (runs_move rfl) ?_
                refine RW.on_guard rfl rfl rfl rfl hb62 ?_
                refine RW.op1 rfl (runs_leq rfl rfl) ?_
                refine RW.on_guard rfl rfl rfl rfl hb59 ?_
                refine RW.op1 rfl (runs_pick_true rfl hb62 rfl) ?_
                refine RW.op1 rfl (runs_pick_false rfl hb59 rfl) ?_
                refine RW.op1 rfl (runs_assign rfl) ?_
                refine RW.done ?_
                exact AQ.meet () hst ⟨rfl, codes_b (by simp only [decide_eq_true_eq, true_iff, Bool.false_eq_true, false_iff]; omega), trivial⟩
              · have hb62p := hb62
                try simp only [decide_eq_true_eq, decide_eq_false_iff_not] at hb62p
                refine RW.off_guard rfl rfl rfl rfl hb62 ?_
                refine RW.off_guard rfl rfl rfl rfl hb62 ?_
                refine RW.on_guard rfl rfl rfl rfl hb59 ?_
                refine RW.op1 rfl (runs_pick_false rfl hb62 rfl) ?_
                refine RW.op1 rfl (runs_pick_false rfl hb59 rfl) ?_
                refine RW.op1 rfl (runs_assign rfl) ?_
                refine RW.done ?_
                exact AQ.meet () hst ⟨rfl, codes_b (by simp only [decide_eq_true_eq, true_iff, Bool.false_eq_true, false_iff]; omega), trivial⟩
      · rintro _ w hstn
        clear hst
        have hst := hstn
        clear hstn
        refine AQ.next ?_
        refine CW.seq ?_
        -- region 15
        refine CW.region ?_
        refine RW.op1 rfl (runs_move rfl) ?_
        refine RW.call rfl call13 rfl rfl (again_spec hst c) ?_
        rintro e w ⟨I9, hI9, rfl, hstn⟩
        clear hst
        have hst := hstn
        clear hstn
        replace hle := hle.trans hI9
        refine ⟨_, rfl, ?_⟩
        refine RW.op1 rfl (runs_move rfl) ?_
        refine RW.op1 rfl (runs_eqB Try.underlying4 rfl rfl) ?_
        refine RW.op1 rfl (runs_move rfl) ?_
        have hk71 := (show (decide (c ∈ codesR) == decide (c ∈ codesR)) = true by simp)
        refine RW.on_guard rfl rfl rfl rfl hk71 ?_
        refine RW.op1 rfl (runs_move rfl) ?_
        refine RW.on_guard rfl rfl rfl rfl hk71 ?_
        refine RW.op1 rfl (runs_neg rfl (by omega)) ?_
        refine RW.on_guard rfl rfl rfl rfl hk71 ?_
        refine RW.op1 rfl (runs_sub rfl rfl (by omega)) ?_
        refine RW.on_guard rfl rfl rfl rfl hk71 ?_
        refine RW.call rfl call13 rfl rfl (again_spec hst (-c - 1)) ?_
        rintro e w ⟨I10, hI10, rfl, hstn⟩
        clear hst
        have hst := hstn
        clear hstn
        replace hle := hle.trans hI10
        refine ⟨_, rfl, ?_⟩
        refine RW.on_guard rfl rfl rfl rfl hk71 ?_
        refine RW.op1 rfl (runs_not rfl) ?_
        refine RW.op1 rfl (runs_pick_true rfl hk71 rfl) ?_
        refine RW.op1 rfl (runs_move rfl) ?_
        have hk78 := (show (!decide (-c - 1 ∈ codesR)) = true by rw [decide_eq_false (by rw [codes_iff]; omega)]; rfl)
        refine RW.on_guard rfl rfl rfl rfl hk78 ?_
        refine RW.call rfl call12 rfl rfl (after_spec hst 2 (RdH.nil _) (by simp) (by simp) (by decide)) ?_
        rintro e w ⟨I11, hI11, rfl, hstn⟩
        clear hst
        have hst := hstn
        clear hstn
        rw [after_nil]
        replace hle := hle.trans hI11
        refine ⟨_, rfl, ?_⟩
        refine RW.on_guard rfl rfl rfl rfl hk78 ?_
        refine RW.op1 rfl (runs_eqI rfl rfl) ?_
        refine RW.op1 rfl (runs_pick_true rfl hk78 rfl) ?_
        refine RW.op1 rfl (runs_move rfl) ?_
        have hk82 := (show decide (delayR 2 = 4) = true by decide)
        refine RW.on_guard rfl rfl rfl rfl hk82 ?_
        refine RW.call rfl call14 rfl rfl (wakes16_spec hst) ?_
        rintro e w ⟨rfl, I12, hI12, hstn⟩
        clear hst
        have hst := hstn
        clear hstn
        replace hle := hle.trans hI12
        refine ⟨_, rfl, ?_⟩
        refine RW.op1 rfl (runs_pick_true rfl hk82 rfl) ?_
        refine RW.op1 rfl (runs_assign rfl) ?_
        refine RW.done ?_
        refine AQ.next ?_
        refine CW.ret ?_
        refine AQ.ret1 rfl rfl ?_
        exact ⟨rfl, _, hle, hst⟩
end Go.Proofs.YtdelipmhginegaaX
