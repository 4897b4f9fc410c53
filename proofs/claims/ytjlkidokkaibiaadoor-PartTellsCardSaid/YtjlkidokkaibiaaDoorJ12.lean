/- Of any headers their strong tag; of any text its span; of any answer whether it fits; what is asked for. -/
import Derived.Test.YtjlkidokkaibiaaDoorT
import Derived.Test.YtjlkidokkaibiaaDoorJ10
import Derived.Test.YtjlkidokkaibiaaDoorXT
import Derived.Test.YtjlkidokkaibiaaDoorXU
namespace Go.Proofs.YtjlkidokkaibiaaDoorX
set_option linter.unusedVariables false
set_option linter.unusedSimpArgs false
open Go Go.RowKit Go.Proofs

def tagsS (s : ByteArray) : List ByteArray := [⟨#[34, 97, 34]⟩, ⟨#[34, 98, 34]⟩, ⟨#[]⟩, ⟨#[87, 47, 34, 97, 34]⟩, s]
theorem rheads_len (got : Int) (tag : ByteArray) : (rheadsR got tag).length ≤ 2 := by
  unfold rheadsR
  split <;> simp
theorem HSm.raw {hs : List HRow} (h : HSm hs) (h6 : hs.length ≤ 6) {s : ByteArray} (hs0 : s.size ≤ 9223372036854775807) : HSm ((cranS, s) :: (etagS, s) :: hs) := by
  refine ⟨fun r hr => ?_, by simp; omega⟩
  rcases List.mem_cons.1 hr with rfl | hr
  · exact ⟨Nat.le_of_ble_eq_true rfl, hs0⟩
  rcases List.mem_cons.1 hr with rfl | hr
  · exact ⟨Nat.le_of_ble_eq_true rfl, hs0⟩
  exact h.1 r hr
set_option maxRecDepth 100000 in
set_option maxHeartbeats 4000000 in
theorem ptells_spec {w0 w : World} {I : Imm} {L : Own} (hst : St w0 w I L) (hT : TabK I) (n : Int) (hn : i64ok n) {vl : Value} {ls : List Int} (hl : RdI I vl ls) (hls : ∀ x ∈ ls, i64ok x) (hll : ls.length ≤ 9223372036854775807) (s : ByteArray) (hs0 : s.size ≤ 9223372036854775807) (got which : Int) (hgot : i64ok got) (hwh : i64ok which) (raw : Bool) :
    Calls Tryd.prog 5 #[.int .i64 n, vl, .string s, .int .i64 got, .int .i64 which, .bool raw] w fun e w' => e = .returned (.bool true) ∧ ∃ I', I.le I' ∧ St w0 w' I' L := by
  refine enter Tryd.func5 rfl (N := 131) rfl rfl ?_
  simp only [List.zipIdx_cons, List.zipIdx_nil, List.map_cons, List.map_nil, Nat.zero_add, Nat.reduceAdd]
  have hle := Imm.le.refl I
  refine CW.seq ?_
  -- region 0
  refine CW.region ?_
  refine RW.op1 rfl (runs_assign rfl) ?_
  refine RW.done ?_
  refine AQ.next ?_
  refine CW.seq ?_
  -- region 1
  refine CW.region ?_
  refine RW.op1 rfl (runs_move rfl) ?_
  refine RW.op1 rfl (runs_move rfl) ?_
  refine RW.call rfl call14 rfl rfl (reply_spec hst n hn hl hls hll ⟨#[]⟩) ?_
  rintro e w ⟨I1, vh, code, hs, body, hI1, rfl, hstn, hv, hmd⟩
  clear hst
  have hst := hstn
  clear hstn
  have hok := hmd.hsm
  have hfew := hmd.few
  have hbo : body.size ≤ 60 := hmd.body.elim id (fun e => by rw [e]; decide)
  clear hmd hl
  have hv1 : vh.oneCell' = true := by obtain ⟨_, _, A, c, rfl, _⟩ := hv; rfl
  replace hT := hT.mono hI1
  replace hle := hle.trans hI1
  refine ⟨_, rfl, ?_⟩
  refine RW.opE rfl (runs_alloc ti40 hst) ?_
  rintro _ w ⟨b2, rfl, hstn⟩
  clear hst
  have hst := hstn
  clear hstn
  refine RW.opE0 (runs_storeW ti40 rfl rfl hst (k := 0) rfl rfl rfl (NoFz.zero _) (all4 _ _ hv1)) ?_
  rintro w hstn
  clear hst
  have hst := hstn
  clear hstn
  try simp only [List.set_cons_zero, List.set_cons_succ] at hst
  refine RW.done ?_
  refine AQ.next ?_
  refine CW.seq ?_
  refine CW.seq ?_
  -- region 2
  refine CW.region ?_
  refine RW.op1 rfl (runs_move rfl) ?_
  refine RW.op1 rfl (runs_rem rfl rfl (by decide)) ?_
  refine RW.op1 rfl (runs_eqI rfl rfl) ?_
  refine RW.done ?_
  refine AQ.next ?_
  refine CW.cut Int (fun x w => St w0 w I1 ((b2, Obj.cells (Value.agg #[.int .i64 (x), vh, .string body, .bool false]).cells 40) :: L)) (fun x => [(2, .string s), (3, .int .i64 (got)), (4, .int .i64 which), (13, .pointer (some ⟨b2, 0, none⟩)), (5, .bool raw)]) ?_ ?_
  · refine CW.cond rfl (fun hc32 => ?_) (fun hc32 => ?_)
    · have hcb32 := hc32
      try simp only [decide_eq_true_eq, decide_eq_false_iff_not] at hc32
      -- region 3
      refine CW.region ?_
      first
        | refine RW.op1 rfl (runs_fieldAddr0 rfl Tryd.underlying40 rfl ti3 (by decide)) ?_
        | refine RW.op1 rfl (runs_fieldAddr rfl Tryd.underlying40 rfl ti3 (by decide)) ?_
      first
        | refine RW.opE0 (runs_store1P ti3 rfl rfl hst (k := 0) rfl rfl (NoFz.zero _) rfl) ?_
        | refine RW.opE0 (runs_store1P ti3 rfl rfl hst (k := 1) rfl rfl (NoFz.zero _) rfl) ?_
        | refine RW.opE0 (runs_store1P ti3 rfl rfl hst (k := 2) rfl rfl (NoFz.zero _) rfl) ?_
      rintro w hstn
      clear hst
      have hst := hstn
      clear hstn
      try simp only [List.set_cons_zero, List.set_cons_succ] at hst
      refine RW.done ?_
      exact AQ.meet _ hst ⟨rfl, rfl, rfl, rfl, rfl, trivial⟩
    · have hcb32 := hc32
      try simp only [decide_eq_true_eq, decide_eq_false_iff_not] at hc32
      refine CW.skip ?_
      exact AQ.meet _ hst ⟨rfl, rfl, rfl, rfl, rfl, trivial⟩
  · rintro code w hstn
    clear hst
    have hst := hstn
    clear hstn
    refine AQ.next ?_
    refine CW.seq ?_
    refine CW.seq ?_
    -- region 4
    refine CW.region ?_
    refine RW.op1 rfl (runs_move rfl) ?_
    refine RW.done ?_
    refine AQ.next ?_
    refine CW.cut (Imm × Value × List HRow) (fun x w => I.le x.1 ∧ TabK x.1 ∧ RdH x.1 x.2.1 x.2.2 ∧ HSm x.2.2 ∧ St w0 w x.1 ((b2, Obj.cells (Value.agg #[.int .i64 (code), x.2.1, .string body, .bool false]).cells 40) :: L)) (fun x => [(2, .string s), (3, .int .i64 (got)), (4, .int .i64 which), (13, .pointer (some ⟨b2, 0, none⟩))]) ?_ ?_
    · refine CW.cond rfl (fun hc34 => ?_) (fun hc34 => ?_)
      · have hcb34 := hc34
        try simp only [decide_eq_true_eq, decide_eq_false_iff_not] at hc34
        -- region 5
        refine CW.region ?_
        refine RW.op1 rfl (runs_move rfl) ?_
        refine RW.op1 rfl (runs_buildF (cells := [_, _]) bz26 rfl rfl rfl rfl rfl) ?_
        refine RW.op1 rfl (runs_move rfl) ?_
        refine RW.op1 rfl (runs_buildF (cells := [_, _]) bz26 rfl rfl rfl rfl rfl) ?_
        refine RW.opE rfl (runs_litF (xs := [.agg #[_, _], .agg #[_, _]]) Tryd.underlying31 ti26 (by decide) rfl rfl rfl rfl rfl hst (by decide)) ?_
        rintro u5 w ⟨Lv5, hstn, hg5⟩
        clear hst
        have hst := hstn
        clear hstn
        have hA : Grow 26 2 u5 2 (([(cranS, s), (etagS, s)] : List HRow).flatMap hrow) Lv5 := hg5
        first
          | refine RW.op1 rfl (runs_fieldAddr0 rfl Tryd.underlying40 rfl ti31 (by decide)) ?_
          | refine RW.op1 rfl (runs_fieldAddr rfl Tryd.underlying40 rfl ti31 (by decide)) ?_
        refine RW.op1 rfl (runs_load1 sc31 rfl ((hst.sub (List.sublist_append_right _ _)).cell_own (k := 0) rfl rfl)) ?_
        refine RW.opE rfl (runs_appendR Tryd.underlying31 ti26 rfl (by decide) rfl rfl hst hA hv (by omega) (by unfold maxLen; omega)) ?_
        rintro u6 w ⟨Lv6, hstn, hg6⟩
        clear hst
        have hst := hstn
        clear hstn
        obtain ⟨J6, hJ6, hstn, h6⟩ := Grow.freeze hg6 hst
        clear hst
        have hst := hstn
        clear hstn
        replace hT := hT.mono hJ6
        replace hv := hv.mono hJ6
        replace hle := hle.trans hJ6
        try simp only [List.nil_append] at h6
        replace h6 : RdH J6 u6 ((cranS, s) :: (etagS, s) :: hs) := by
          unfold RdH
          rw [show ((cranS, s) :: (etagS, s) :: hs).length = 2 + hs.length by simp; omega]
          exact h6
        have hR := h6
        first
          | refine RW.op1 rfl (runs_fieldAddr0 rfl Tryd.underlying40 rfl ti31 (by decide)) ?_
          | refine RW.op1 rfl (runs_fieldAddr rfl Tryd.underlying40 rfl ti31 (by decide)) ?_
        refine RW.opE0 (runs_store1P ti31 rfl rfl hst (k := 0) rfl rfl (NoFz.zero _) (RdL.one hR)) ?_
        rintro w hstn
        clear hst
        have hst := hstn
        clear hstn
        try simp only [List.set_cons_zero, List.set_cons_succ] at hst
        refine RW.done ?_
        first
          | exact AQ.meet (_, _, _) ⟨hle, hT, hR, hok.raw hfew hs0, hst⟩ ⟨rfl, rfl, rfl, rfl, trivial⟩
          | exact AQ.meet (_, _, _) ⟨hle, hT, hv, hok, hst⟩ ⟨rfl, rfl, rfl, rfl, trivial⟩
      · have hcb34 := hc34
        try simp only [decide_eq_true_eq, decide_eq_false_iff_not] at hc34
        refine CW.skip ?_
        first
          | exact AQ.meet (_, _, _) ⟨hle, hT, hR, hok.raw hfew hs0, hst⟩ ⟨rfl, rfl, rfl, rfl, trivial⟩
          | exact AQ.meet (_, _, _) ⟨hle, hT, hv, hok, hst⟩ ⟨rfl, rfl, rfl, rfl, trivial⟩
    · clear hle hT hv hok hfew hv1
      rintro ⟨I2, vh, hs⟩ w ⟨hle, hT, hv, hok, hstn⟩
      dsimp only at hle hT hv hok hstn ⊢
      clear hst
      have hst := hstn
      clear hstn
      obtain ⟨hA0, hc0, rfl⟩ : ∃ A c, vh = .slice A hs.length c := by obtain ⟨_, _, A, c, e, _⟩ := hv; exact ⟨A, c, e⟩
      refine AQ.next ?_
      refine CW.seq ?_
      refine CW.seq ?_
      -- region 6
      refine CW.region ?_
      refine RW.op1 rfl (runs_move rfl) ?_
      refine RW.op1 rfl (runs_rem rfl rfl (by decide)) ?_
      refine RW.op1 rfl (runs_gtr rfl rfl) ?_
      refine RW.done ?_
      refine AQ.next ?_
      refine CW.cut Int (fun x w => St w0 w I2 ((b2, Obj.cells (Value.agg #[.int .i64 (code), (.slice hA0 hs.length hc0), .string body, .bool false]).cells 40) :: L) ∧ x ≤ 9223372036854775807) (fun x => [(2, .string s), (3, .int .i64 (x)), (4, .int .i64 which), (13, .pointer (some ⟨b2, 0, none⟩))]) ?_ ?_
      · refine CW.cond rfl (fun hc46 => ?_) (fun hc46 => ?_)
        · have hcb46 := hc46
          try simp only [decide_eq_true_eq, decide_eq_false_iff_not] at hc46
          -- region 7
          refine CW.region ?_
          refine RW.op1 rfl (runs_move rfl) ?_
          refine RW.call rfl call9 rfl rfl (within_spec hst (v := got) (n := 10) hgot (by unfold i64ok; decide)) ?_
          rintro e w ⟨rfl, hstn⟩
          clear hst
          have hst := hstn
          clear hstn
          have hw10 := within_range got 10
          have hw11 := hw10.2 (by decide)
          refine ⟨_, rfl, ?_⟩
          refine RW.op1 rfl (runs_assign rfl) ?_
          refine RW.done ?_
          exact AQ.meet _ ⟨hst, by unfold i64ok at hgot; omega⟩ ⟨rfl, rfl, rfl, rfl, trivial⟩
        · have hcb46 := hc46
          try simp only [decide_eq_true_eq, decide_eq_false_iff_not] at hc46
          refine CW.skip ?_
          exact AQ.meet _ ⟨hst, by unfold i64ok at hgot; omega⟩ ⟨rfl, rfl, rfl, rfl, trivial⟩
      · clear hgot
        rintro got w ⟨hstn, hgot⟩
        clear hst
        have hst := hstn
        clear hstn
        refine AQ.next ?_
        refine CW.seq ?_
        -- region 8
        refine CW.region ?_
        refine RW.op1 rfl (runs_move rfl) ?_
        refine RW.opE rfl (runs_lit1R Tryd.underlying29 ti9 (by decide) rfl rfl rfl (by simp [Value.oneCell']) hst) ?_
        rintro u9 w ⟨I9, hI9, hstn, h9⟩
        clear hst
        have hst := hstn
        clear hstn
        replace hT := hT.mono hI9
        replace hv := hv.mono hI9
        replace hle := hle.trans hI9
        have hN : RdS _ u9 (tagsS s) := h9
        refine RW.op1 rfl (runs_move rfl) ?_
        refine RW.call rfl call9 rfl rfl (within_spec hst (v := which) (n := 5) hwh (by unfold i64ok; decide)) ?_
        rintro e w ⟨rfl, hstn⟩
        clear hst
        have hst := hstn
        clear hstn
        have hw5 := (within_range which 5).1
        have hw6 := (within_range which 5).2 (by decide)
        generalize within which 5 = j at hw5 hw6 ⊢
        refine ⟨_, rfl, ?_⟩
        refine RW.op1 rfl (RdL.indexAddr Tryd.underlying29 ti9 (by decide) rfl rfl hN (by show 0 ≤ j ∧ j < 5; omega)) ?_
        refine RW.op1 rfl (runs_load1 sc9 rfl (hst.cell_imm (RdS.at hN (by omega) (by show j < 5; omega)))) ?_
        generalize sat (tagsS s) j = tag
        refine RW.op1 rfl (runs_assign rfl) ?_
        refine RW.done ?_
        refine AQ.next ?_
        refine CW.seq ?_
        -- region 9
        refine CW.region ?_
        refine RW.op1 rfl (runs_move rfl) ?_
        refine RW.call rfl call8 rfl rfl (span_spec hst s hs0) ?_
        rintro e w ⟨rfl, hstn⟩
        clear hst
        have hst := hstn
        clear hstn
        refine ⟨_, rfl, ?_⟩
        refine RW.op1 rfl (runs_move rfl) ?_
        refine RW.op1 rfl (runs_extract rfl rfl) ?_
        refine RW.op1 rfl (runs_extract rfl rfl) ?_
        refine RW.op1 rfl (runs_extract rfl rfl) ?_
        refine RW.op1 rfl (runs_extract rfl rfl) ?_
        refine RW.op1 rfl (runs_assign rfl) ?_
        refine RW.op1 rfl (runs_assign rfl) ?_
        refine RW.op1 rfl (runs_assign rfl) ?_
        refine RW.op1 rfl (runs_assign rfl) ?_
        refine RW.done ?_
        refine AQ.next ?_
        refine CW.seq ?_
        -- region 10
        refine CW.region ?_
        refine RW.op1 rfl (runs_move rfl) ?_
        refine RW.call rfl call15 rfl rfl (refSpan_spec hst s hs0) ?_
        rintro e w ⟨rfl, hstn⟩
        clear hst
        have hst := hstn
        clear hstn
        obtain ⟨q, hq⟩ : ∃ q, spanR s = q := ⟨_, rfl⟩
        rw [hq]
        refine ⟨_, rfl, ?_⟩
        refine RW.op1 rfl (runs_move rfl) ?_
        refine RW.op1 rfl (runs_extract rfl rfl) ?_
        refine RW.op1 rfl (runs_extract rfl rfl) ?_
        refine RW.op1 rfl (runs_extract rfl rfl) ?_
        refine RW.op1 rfl (runs_extract rfl rfl) ?_
        refine RW.op1 rfl (runs_assign rfl) ?_
        refine RW.op1 rfl (runs_assign rfl) ?_
        refine RW.op1 rfl (runs_assign rfl) ?_
        refine RW.op1 rfl (runs_assign rfl) ?_
        refine RW.done ?_
        refine AQ.next ?_
        refine CW.seq ?_
        refine CW.seq ?_
        -- region 11
        refine CW.drawSt hst (.q 0 (.q 1 (.q 2 (.q 3 (.q 4 (.q 5 (.q 6 (.q 7 (.q 8 (.q 9 (.q 10 (.q 11 (.q 12 (.q 13 (.q 14 (.q 15 (.q 16 (.q 17 (.q 18 (.q 19 (.q 20 (.q 22 (.q 23 (.l 21 (.l 24 (.q 25 (.q 26 .nil))))))))))))))))))))))))))) follows (by kernel_rfl) (fun w hst => ?_)
        refine DRW.q rfl rfl (fun w' hF => runs_move rfl) ?_
        refine DRW.q rfl rfl (fun w' hF => runs_move rfl) ?_
        refine DRW.q rfl rfl (fun w' hF => runs_neI rfl rfl) ?_
        refine DRW.q rfl rfl (fun w' hF => runs_move rfl) ?_
        have hk72 := (show decide (q.1 ≠ q.1) = false by simp)
        refine DRW.q_on rfl rfl rfl rfl hk72 rfl (fun w' hF => runs_move rfl) ?_
        refine DRW.q_on rfl rfl rfl rfl hk72 rfl (fun w' hF => runs_move rfl) ?_
        refine DRW.q_on rfl rfl rfl rfl hk72 rfl (fun w' hF => runs_neI rfl rfl) ?_
        refine DRW.q rfl rfl (fun w' hF => runs_pick_false rfl hk72 rfl) ?_
        refine DRW.q rfl rfl (fun w' hF => runs_move rfl) ?_
        have hk77 := (show decide (q.2.1 ≠ q.2.1) = false by simp)
        refine DRW.q_on rfl rfl rfl rfl hk77 rfl (fun w' hF => runs_move rfl) ?_
        refine DRW.q_on rfl rfl rfl rfl hk77 rfl (fun w' hF => runs_move rfl) ?_
        refine DRW.q_on rfl rfl rfl rfl hk77 rfl (fun w' hF => runs_neI rfl rfl) ?_
        refine DRW.q rfl rfl (fun w' hF => runs_pick_false rfl hk77 rfl) ?_
        refine DRW.q rfl rfl (fun w' hF => runs_move rfl) ?_
        have hk82 := (show decide (q.2.2.1 ≠ q.2.2.1) = false by simp)
        refine DRW.q_on rfl rfl rfl rfl hk82 rfl (fun w' hF => runs_move rfl) ?_
        refine DRW.q_on rfl rfl rfl rfl hk82 rfl (fun w' hF => runs_move rfl) ?_
        refine DRW.q_on rfl rfl rfl rfl hk82 rfl (fun w' hF => runs_neB Tryd.underlying4 rfl rfl) ?_
        refine DRW.q rfl rfl (fun w' hF => runs_pick_false rfl hk82 rfl) ?_
        refine DRW.q rfl rfl (fun w' hF => runs_move rfl) ?_
        have hk87 := (show (!(q.2.2.2 == q.2.2.2)) = false by simp)
        first
          | refine DRW.q_on rfl rfl rfl rfl hk87 rfl (fun w' hF => runs_fieldAddr0 rfl Tryd.underlying40 rfl ti31 (by decide)) ?_
          | refine DRW.q_on rfl rfl rfl rfl hk87 rfl (fun w' hF => runs_fieldAddr rfl Tryd.underlying40 rfl ti31 (by decide)) ?_
        refine DRW.q_on rfl rfl rfl rfl hk87 rfl (FSt.load1_own (v := .slice hA0 hs.length hc0) sc31 rfl (k := 0) rfl rfl) ?_
        first
          | refine DRW.q_on rfl rfl rfl rfl hk87 rfl (fun w' hF => runs_fieldAddr0 rfl Tryd.underlying40 rfl ti31 (by decide)) ?_
          | refine DRW.q_on rfl rfl rfl rfl hk87 rfl (fun w' hF => runs_fieldAddr rfl Tryd.underlying40 rfl ti31 (by decide)) ?_
        refine DRW.q_on rfl rfl rfl rfl hk87 rfl (FSt.load1_own (v := .slice hA0 hs.length hc0) sc31 rfl (k := 0) rfl rfl) ?_
        refine DRW.call_on rfl rfl rfl rfl hk87 rfl call7 rfl rfl (tag_spec hst hv hok.names (by have := hok.val etagS; omega) hok.2) ?_
        rintro e w ⟨I13, hI13, rfl, hstn⟩
        clear hst
        have hst := hstn
        clear hstn
        replace hT := hT.mono hI13
        replace hv := hv.mono hI13
        replace h9 := h9.mono hI13
        replace hN := hN.mono hI13
        replace hle := hle.trans hI13
        refine ⟨_, rfl, FSt.of hst hI13 (by first | exact (List.sublist_cons_self _ _).trans (List.sublist_append_right _ _) | exact List.Sublist.refl _ | exact List.sublist_cons_self _ _ | exact List.sublist_append_right _ _ | exact (List.sublist_cons_self _ _).trans (List.sublist_cons_self _ _) | exact (List.sublist_append_right _ _).trans (List.sublist_cons_self _ _) | simp), ?_⟩
        refine DRW.call_on rfl rfl rfl rfl hk87 rfl call16 rfl rfl (refTag_spec hst hv hok.names (by have := hok.val etagS; omega) hok.2) ?_
        rintro e w ⟨I14, hI14, rfl, hstn⟩
        clear hst
        have hst := hstn
        clear hstn
        replace hT := hT.mono hI14
        replace hv := hv.mono hI14
        replace h9 := h9.mono hI14
        replace hN := hN.mono hI14
        replace hle := hle.trans hI14
        refine ⟨_, rfl, FSt.of hst (hI13.trans hI14) (by first | exact (List.sublist_cons_self _ _).trans (List.sublist_append_right _ _) | exact List.Sublist.refl _ | exact List.sublist_cons_self _ _ | exact List.sublist_append_right _ _ | exact (List.sublist_cons_self _ _).trans (List.sublist_cons_self _ _) | exact (List.sublist_append_right _ _).trans (List.sublist_cons_self _ _) | simp), ?_⟩
        refine DRW.q_on rfl rfl rfl rfl hk87 rfl (fun w' hF => runs_neS rfl rfl) ?_
        refine DRW.q rfl rfl (fun w' hF => runs_pick_false rfl hk87 rfl) ?_
        refine DRW.done ?_
        refine AQ.next ?_
        refine CW.cond rfl (fun hc => absurd hc (by simp)) (fun hc => ?_)
        refine CW.skip ?_
        refine AQ.next ?_
        refine CW.seq ?_
        -- region 13
        refine CW.region ?_
        first
          | refine RW.op1 rfl (runs_loadN (vs := [_, _, _, _]) ag40 ti40 rfl hst (k := 0) rfl rfl rfl) ?_
          | refine RW.op1 rfl (runs_loadN (vs := [_, _, _, _]) ag40 ti40 rfl hst (k := 1) rfl rfl rfl) ?_
          | refine RW.op1 rfl (runs_loadN (vs := [_, _, _, _]) ag40 ti40 rfl hst (k := 2) rfl rfl rfl) ?_
        refine RW.call rfl call18 rfl rfl (to_spec hst code hv body false) ?_
        rintro e w ⟨I15, hI15, rfl, hstn⟩
        clear hst
        have hst := hstn
        clear hstn
        replace hT := hT.mono hI15
        replace hv := hv.mono hI15
        replace h9 := h9.mono hI15
        replace hN := hN.mono hI15
        replace hle := hle.trans hI15
        refine ⟨_, rfl, ?_⟩
        refine RW.op1 rfl (runs_move rfl) ?_
        refine RW.op1 rfl (runs_move rfl) ?_
        refine RW.call rfl call17 rfl rfl (fits_spec hst code false body hv hok got tag) ?_
        rintro e w ⟨I16, hI16, rfl, hstn⟩
        clear hst
        have hst := hstn
        clear hstn
        replace hT := hT.mono hI16
        replace hv := hv.mono hI16
        replace h9 := h9.mono hI16
        replace hN := hN.mono hI16
        replace hle := hle.trans hI16
        refine ⟨_, rfl, ?_⟩
        refine RW.op1 rfl (runs_move rfl) ?_
        refine RW.op1 rfl (runs_extract rfl rfl) ?_
        refine RW.op1 rfl (runs_extract rfl rfl) ?_
        refine RW.op1 rfl (runs_assign rfl) ?_
        refine RW.op1 rfl (runs_assign rfl) ?_
        refine RW.done ?_
        refine AQ.next ?_
        refine CW.seq ?_
        -- region 14
        refine CW.region ?_
        first
          | refine RW.op1 rfl (runs_loadN (vs := [_, _, _, _]) ag40 ti40 rfl hst (k := 0) rfl rfl rfl) ?_
          | refine RW.op1 rfl (runs_loadN (vs := [_, _, _, _]) ag40 ti40 rfl hst (k := 1) rfl rfl rfl) ?_
          | refine RW.op1 rfl (runs_loadN (vs := [_, _, _, _]) ag40 ti40 rfl hst (k := 2) rfl rfl rfl) ?_
        refine RW.op1 rfl (runs_move rfl) ?_
        refine RW.op1 rfl (runs_move rfl) ?_
        refine RW.call rfl call19 rfl rfl (refFits_spec hst code false body hv hok got tag) ?_
        rintro e w ⟨I17, hI17, rfl, hstn⟩
        clear hst
        have hst := hstn
        clear hstn
        replace hT := hT.mono hI17
        replace hv := hv.mono hI17
        replace h9 := h9.mono hI17
        replace hN := hN.mono hI17
        replace hle := hle.trans hI17
        refine ⟨_, rfl, ?_⟩
        refine RW.op1 rfl (runs_move rfl) ?_
        refine RW.op1 rfl (runs_extract rfl rfl) ?_
        refine RW.op1 rfl (runs_extract rfl rfl) ?_
        refine RW.op1 rfl (runs_assign rfl) ?_
        refine RW.op1 rfl (runs_assign rfl) ?_
        refine RW.done ?_
        refine AQ.next ?_
        refine CW.seq ?_
        -- region 15
        refine CW.region ?_
        refine RW.op1 rfl (runs_move rfl) ?_
        refine RW.op1 rfl (runs_move rfl) ?_
        refine RW.op1 rfl (runs_eqI rfl rfl) ?_
        refine RW.op1 rfl (runs_move rfl) ?_
        have hk114 := (show decide ((fitsR code hs body got tag).1 = (fitsR code hs body got tag).1) = true by simp)
        refine RW.on_guard rfl rfl rfl rfl hk114 ?_
        refine RW.op1 rfl (runs_move rfl) ?_
        refine RW.on_guard rfl rfl rfl rfl hk114 ?_
        refine RW.op1 rfl (runs_move rfl) ?_
        refine RW.on_guard rfl rfl rfl rfl hk114 ?_
        refine RW.op1 rfl (runs_eqB Tryd.underlying4 rfl rfl) ?_
        refine RW.op1 rfl (runs_pick_true rfl hk114 rfl) ?_
        refine RW.op1 rfl (runs_move rfl) ?_
        have hk119 := (show ((fitsR code hs body got tag).2 == (fitsR code hs body got tag).2) = true by simp)
        refine RW.on_guard rfl rfl rfl rfl hk119 ?_
        refine RW.op1 rfl (runs_move rfl) ?_
        refine RW.on_guard rfl rfl rfl rfl hk119 ?_
        refine RW.op1 rfl (runs_move rfl) ?_
        refine RW.on_guard rfl rfl rfl rfl hk119 ?_
        refine RW.call rfl call10 rfl rfl (heads_spec hst hT got hgot tag) ?_
        rintro e w ⟨I18, vA, hI18, rfl, hRA, hstn⟩
        clear hst
        have hst := hstn
        clear hstn
        replace hT := hT.mono hI18
        replace hv := hv.mono hI18
        replace h9 := h9.mono hI18
        replace hN := hN.mono hI18
        replace hle := hle.trans hI18
        refine ⟨_, rfl, ?_⟩
        refine RW.on_guard rfl rfl rfl rfl hk119 ?_
        refine RW.op1 rfl (runs_move rfl) ?_
        refine RW.on_guard rfl rfl rfl rfl hk119 ?_
        refine RW.op1 rfl (runs_move rfl) ?_
        refine RW.on_guard rfl rfl rfl rfl hk119 ?_
        refine RW.call rfl call20 rfl rfl (rangeHeads_spec hst got hgot tag) ?_
        rintro e w ⟨I19, vB, hI19, rfl, hRB, hstn⟩
        clear hst
        have hst := hstn
        clear hstn
        replace hT := hT.mono hI19
        replace hv := hv.mono hI19
        replace h9 := h9.mono hI19
        replace hN := hN.mono hI19
        replace hRA := hRA.mono hI19
        replace hle := hle.trans hI19
        refine ⟨_, rfl, ?_⟩
        refine RW.on_guard rfl rfl rfl rfl hk119 ?_
        refine RW.call rfl call11 rfl rfl (sameH_spec hst hRA hRB (by have := rheads_len got tag; omega)) ?_
        rintro e w ⟨rfl, hstn⟩
        clear hst
        have hst := hstn
        clear hstn
        refine ⟨_, rfl, ?_⟩
        refine RW.op1 rfl (runs_pick_true rfl hk119 rfl) ?_
        refine RW.op1 rfl (runs_move rfl) ?_
        have hk128 := (show true = true from rfl)
        refine RW.on_guard rfl rfl rfl rfl hk128 ?_
        refine RW.call rfl call12 rfl rfl (wakes15_spec hst hT) ?_
        rintro e w ⟨rfl, I21, hI21, hstn⟩
        clear hst
        have hst := hstn
        clear hstn
        replace hT := hT.mono hI21
        replace hv := hv.mono hI21
        replace h9 := h9.mono hI21
        replace hN := hN.mono hI21
        replace hRA := hRA.mono hI21
        replace hRB := hRB.mono hI21
        replace hle := hle.trans hI21
        refine ⟨_, rfl, ?_⟩
        refine RW.op1 rfl (runs_pick_true rfl hk128 rfl) ?_
        refine RW.op1 rfl (runs_assign rfl) ?_
        refine RW.done ?_
        refine AQ.next ?_
        refine CW.ret ?_
        refine AQ.ret1 rfl rfl ?_
        exact ⟨rfl, _, hle, hst.drop1⟩
end Go.Proofs.YtjlkidokkaibiaaDoorX
