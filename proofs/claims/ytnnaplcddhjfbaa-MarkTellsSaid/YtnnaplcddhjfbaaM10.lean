/- Any mark, any sector, as the document says: the walk. -/
import Derived.Test.YtnnaplcddhjfbaaT
import Derived.Test.YtnnaplcddhjfbaaM7
import Derived.Test.YtnnaplcddhjfbaaM8
namespace Go.Proofs.YtnnaplcddhjfbaaX
set_option linter.unusedVariables false
set_option linter.unusedSimpArgs false
open Go Go.RowKit Go.Proofs

attribute [local simp] two_length three_length
theorem tb_len {raw : Bool} {e q p n : Int} {b : List UInt8} (h : (raw || !sealM e q p n b) = false) : (if sealM e q p n b then sealB e q p n b else []).length = 32 := by
  cases hm : sealM e q p n b with
  | false => rw [hm] at h; simp at h
  | true => rw [if_pos rfl, sealB_length (sealM_parts hm).2.2.2.2.2]
theorem getD4_len {a b c d : List UInt8} (ha : a.length ≤ 33) (hb : b.length ≤ 33) (hc : c.length ≤ 33) (hd : d.length ≤ 33) (k : Nat) : ([a, b, c, d].getD k []).length ≤ 33 := by
  match k with
  | 0 => exact ha
  | 1 => exact hb
  | 2 => exact hc
  | 3 => exact hd
  | _ + 4 => exact Nat.zero_le _
theorem openR_len (y : List UInt8) : (openR y).b.length ≤ y.length := by
  unfold openR
  split
  · exact bodyOf_length y
  · exact Nat.zero_le _
set_option maxRecDepth 100000 in
set_option maxHeartbeats 1000000 in
theorem tells_spec {w0 w : World} {I : Imm} {L : Own} (hst : St w0 w I L) (a0 a1 a2 a3 : Int) {v : Value} {bs : List UInt8} (hv : RdB I v bs) (how at_ : Int) (c : UInt8) (raw : Bool) (h0 : i64ok a0) (h1 : i64ok a1) (h2 : i64ok a2) (h3 : i64ok a3) (hhow : i64ok how) (hat : i64ok at_) :
    Calls Try.prog 6 #[.int .i64 a0, .int .i64 a1, .int .i64 a2, .int .i64 a3, v, .int .i64 how, .int .i64 at_, .int .u8 (c.toNat : Int), .bool raw] w fun e w' => e = .returned (.bool true) ∧ ∃ I', I.le I' ∧ St w0 w' I' L := by
  unfold i64ok at h0 h1 h2 h3 hhow hat
  refine enter Try.func6 rfl (N := 185) rfl rfl ?_
  simp only [List.zipIdx_cons, List.zipIdx_nil, List.map_cons, List.map_nil, Nat.zero_add, Nat.reduceAdd]
  have hle := Imm.le.refl I
  refine CW.seq ?_
  -- region 0
  refine CW.region ?_
  refine RW.op1 rfl (runs_assign rfl) ?_
  refine RW.done ?_
  refine AQ.next ?_
  refine CW.seq ?_
  -- region 1
  refine CW.region ?_
  refine RW.op1 rfl (runs_assign rfl) ?_
  refine RW.done ?_
  refine AQ.next ?_
  refine CW.seq ?_
  -- region 2
  refine CW.region ?_
  refine RW.op1 rfl (runs_move rfl) ?_
  refine RW.call rfl call13 rfl rfl (cut_spec hst hv (n := 24) (by decide)) ?_
  rintro e w ⟨I1, v4, hI1, rfl, hstn, h4⟩
  clear hst
  have hst := hstn
  clear hstn
  have hbl : (bs.take (24 : Int).toNat).length ≤ 24 := by rw [List.length_take]; show min 24 _ ≤ 24; omega
  generalize (bs.take (24 : Int).toNat) = bo at *
  replace hle := hle.trans hI1
  refine ⟨_, rfl, ?_⟩
  refine RW.op1 rfl (runs_assign rfl) ?_
  refine RW.done ?_
  refine AQ.next ?_
  refine CW.seq ?_
  refine CW.seq ?_
  -- region 3
  refine CW.region ?_
  refine RW.op1 rfl (runs_move rfl) ?_
  refine RW.op1 rfl (runs_rem rfl rfl (by decide)) ?_
  refine RW.op1 rfl (runs_neI rfl rfl) ?_
  refine RW.done ?_
  refine AQ.next ?_
  refine CW.cut (Int × Int × Int × Int × Value × List UInt8 × Imm) (fun y w => I.le y.2.2.2.2.2.2 ∧ St w0 w y.2.2.2.2.2.2 L ∧ RdB y.2.2.2.2.2.2 y.2.2.2.2.1 y.2.2.2.2.2.1 ∧ y.2.2.2.2.2.1.length ≤ 24) (fun y => [(0, .int .i64 y.1), (1, .int .i64 y.2.1), (2, .int .i64 y.2.2.1), (3, .int .i64 y.2.2.2.1), (4, y.2.2.2.2.1), (6, .int .i64 at_), (7, .int .u8 (c.toNat : Int)), (8, .bool raw), (19, .func (.func 10) #[] #[])]) ?_ ?_
  · refine CW.cond rfl (fun hc42 => ?_) (fun hc42 => ?_)
    · have hcb42 := hc42
      try simp only [decide_eq_true_eq, decide_eq_false_iff_not] at hc42
      refine CW.seq ?_
      -- region 4
      refine CW.region ?_
      refine RW.op1 rfl (runs_move rfl) ?_
      refine RW.op1 rfl (runs_move rfl) ?_
      refine RW.call rfl call10 rfl rfl (within_spec hst (v := a0) (n := 65536) (by unfold i64ok; omega) (by unfold i64ok; omega)) ?_
      rintro e w ⟨rfl, hstn⟩
      clear hst
      have hst := hstn
      clear hstn
      have hw45 := within_range (a0) (65536)
      generalize hx45 : within (a0) (65536) = x45 at *
      refine ⟨_, rfl, ?_⟩
      refine RW.op1 rfl (runs_move rfl) ?_
      refine RW.op1 rfl (runs_move rfl) ?_
      refine RW.call rfl call10 rfl rfl (within_spec hst (v := a1) (n := 16777216) (by unfold i64ok; omega) (by unfold i64ok; omega)) ?_
      rintro e w ⟨rfl, hstn⟩
      clear hst
      have hst := hstn
      clear hstn
      have hw48 := within_range (a1) (16777216)
      generalize hx48 : within (a1) (16777216) = x48 at *
      refine ⟨_, rfl, ?_⟩
      refine RW.op1 rfl (runs_move rfl) ?_
      refine RW.op1 rfl (runs_move rfl) ?_
      refine RW.call rfl call10 rfl rfl (within_spec hst (v := a3) (n := 255) (by unfold i64ok; omega) (by unfold i64ok; omega)) ?_
      rintro e w ⟨rfl, hstn⟩
      clear hst
      have hst := hstn
      clear hstn
      have hw51 := within_range (a3) (255)
      generalize hx51 : within (a3) (255) = x51 at *
      refine ⟨_, rfl, ?_⟩
      refine RW.op1 rfl (runs_add rfl rfl (by omega)) ?_
      refine RW.op1 rfl (runs_assign rfl) ?_
      refine RW.op1 rfl (runs_assign rfl) ?_
      refine RW.op1 rfl (runs_assign rfl) ?_
      refine RW.done ?_
      refine AQ.next ?_
      refine CW.seq ?_
      -- region 5
      refine CW.region ?_
      refine RW.op1 rfl (runs_move rfl) ?_
      refine RW.op1 rfl (runs_move rfl) ?_
      refine RW.op1 rfl (runs_move rfl) ?_
      refine RW.call rfl call10 rfl rfl (within_spec hst (v := a2) (n := 1 + x51) (by unfold i64ok; omega) (by unfold i64ok; omega)) ?_
      rintro e w ⟨rfl, hstn⟩
      clear hst
      have hst := hstn
      clear hstn
      have hw56 := within_range (a2) (1 + x51)
      generalize hx56 : within (a2) (1 + x51) = x56 at *
      refine ⟨_, rfl, ?_⟩
      refine RW.op1 rfl (runs_assign rfl) ?_
      refine RW.done ?_
      refine AQ.next ?_
      -- region 6
      refine CW.region ?_
      refine RW.op1 rfl (runs_move rfl) ?_
      refine RW.call rfl call13 rfl rfl (cut_spec hst h4 (n := 19) (by decide)) ?_
      rintro e w ⟨I6, v4b, hI6, rfl, hstn, h4b⟩
      clear hst
      have hst := hstn
      clear hstn
      have hbl2 : (bo.take (19 : Int).toNat).length ≤ 24 := by rw [List.length_take]; omega
      replace h4 := h4.mono hI6
      replace hle := hle.trans hI6
      refine ⟨_, rfl, ?_⟩
      refine RW.op1 rfl (runs_assign rfl) ?_
      refine RW.done ?_
      exact AQ.meet (_, _, _, _, _, _, _) ⟨hle, hst, by assumption, by assumption⟩ ⟨rfl, rfl, rfl, rfl, rfl, rfl, rfl, rfl, rfl, trivial⟩
    · have hcb42 := hc42
      try simp only [decide_eq_true_eq, decide_eq_false_iff_not] at hc42
      refine CW.skip ?_
      exact AQ.meet (_, _, _, _, _, _, _) ⟨hle, hst, by assumption, by assumption⟩ ⟨rfl, rfl, rfl, rfl, rfl, rfl, rfl, rfl, rfl, trivial⟩
  · rintro ⟨e, q, p, n, vb, b, I4⟩ w ⟨hle, hstn, h4, hbl⟩
    dsimp only at hle hstn h4 hbl ⊢
    clear hst
    have hst := hstn
    clear hstn
    refine AQ.next ?_
    refine CW.seq ?_
    -- region 7
    refine CW.region ?_
    refine RW.op1 rfl (runs_move rfl) ?_
    refine RW.op1 rfl (runs_move rfl) ?_
    refine RW.op1 rfl (runs_buildF (cells := [_, _]) bz27 rfl rfl rfl rfl rfl) ?_
    refine RW.op1 rfl (runs_move rfl) ?_
    refine RW.op1 rfl (runs_move rfl) ?_
    refine RW.op1 rfl (runs_move rfl) ?_
    refine RW.call rfl call8 rfl rfl (seal_spec hst e q p n h4 (by omega)) ?_
    rintro e w ⟨I7, vS, hI7, rfl, hstn, hS⟩
    clear hst
    have hst := hstn
    clear hstn
    replace h4 := h4.mono hI7
    replace hle := hle.trans hI7
    refine ⟨_, rfl, ?_⟩
    refine RW.op1 rfl (runs_move rfl) ?_
    refine RW.op1 rfl (runs_extract rfl rfl) ?_
    refine RW.op1 rfl (runs_extract rfl rfl) ?_
    refine RW.op1 rfl (runs_assign rfl) ?_
    refine RW.op1 rfl (runs_assign rfl) ?_
    refine RW.done ?_
    refine AQ.next ?_
    refine CW.seq ?_
    -- region 8
    refine CW.region ?_
    refine RW.op1 rfl (runs_move rfl) ?_
    refine RW.op1 rfl (runs_move rfl) ?_
    refine RW.op1 rfl (runs_move rfl) ?_
    refine RW.op1 rfl (runs_move rfl) ?_
    refine RW.op1 rfl (runs_move rfl) ?_
    refine RW.call rfl call15 rfl rfl (refSeal_spec hst e q p n h4 (by omega)) ?_
    rintro e w ⟨IT, vT, hI8, rfl, hstn, hT⟩
    clear hst
    have hst := hstn
    clear hstn
    have htl : (if sealM e q p n b then sealB e q p n b else []).length ≤ 32 := by
      cases hm : (sealM e q p n b)
      · exact Nat.zero_le _
      · rw [if_pos rfl, sealB_length (sealM_parts hm).2.2.2.2.2]; exact Nat.le_refl _
    replace h4 := h4.mono hI8
    replace hS := hS.mono hI8
    replace hle := hle.trans hI8
    refine ⟨_, rfl, ?_⟩
    refine RW.op1 rfl (runs_move rfl) ?_
    refine RW.op1 rfl (runs_extract rfl rfl) ?_
    refine RW.op1 rfl (runs_extract rfl rfl) ?_
    refine RW.op1 rfl (runs_assign rfl) ?_
    refine RW.op1 rfl (runs_assign rfl) ?_
    refine RW.done ?_
    refine AQ.next ?_
    refine CW.seq ?_
    refine CW.seq ?_
    -- region 9
    refine CW.cut Unit (fun _ w => St w0 w IT L) (fun _ => [(4, vb), (22, vT), (23, .bool (sealM e q p n b)), (95, .bool false), (6, .int .i64 at_), (7, .int .u8 (c.toNat : Int)), (8, .bool raw), (19, .func (.func 10) #[] #[])]) ?_ ?_
    · -- region 9
      refine CW.region ?_
      refine RW.op1 rfl (runs_move rfl) ?_
      refine RW.op1 rfl (runs_eqI rfl rfl) ?_
      refine RW.op1 rfl (runs_move rfl) ?_
      refine RW.op1 rfl (runs_neB Try.underlying4 rfl rfl) ?_
      refine RW.op1 rfl (runs_move rfl) ?_
      have hk82 := (show (!(decide ((if (sealM e q p n b) then (0 : Int) else 1) = 0) == (sealM e q p n b))) = false by cases (sealM e q p n b) <;> rfl)
      refine RW.on_guard rfl rfl rfl rfl hk82 ?_
      refine RW.op1 rfl (runs_move rfl) ?_
      refine RW.on_guard rfl rfl rfl rfl hk82 ?_
      refine RW.op1 rfl (runs_not rfl) ?_
      refine RW.on_guard rfl rfl rfl rfl hk82 ?_
      refine RW.op1 rfl (runs_move rfl) ?_
      refine RW.split (t := 85) rfl (fun hb85 => ?_) (fun hb85 => ?_)
      · have hb85p := hb85
        try simp only [decide_eq_true_eq, decide_eq_false_iff_not] at hb85p
        refine RW.on_guard rfl rfl rfl rfl hb85 ?_
        refine RW.op1 rfl (runs_move rfl) ?_
        refine RW.on_guard rfl rfl rfl rfl hb85 ?_
        refine RW.op1 rfl (runs_neI rfl rfl) ?_
        refine RW.on_guard rfl rfl rfl rfl hk82 ?_
        refine RW.op1 rfl (runs_pick_true rfl hb85 rfl) ?_
        refine RW.op1 rfl (runs_pick_false rfl hk82 rfl) ?_
        refine RW.op1 rfl (runs_move rfl) ?_
        have hk90 := (show decide ((if (sealM e q p n b) then (0 : Int) else 1) ≠ 1) = false by cases hm : (sealM e q p n b) with
          | false => rfl
          | true => rw [hm] at hb85; exact absurd hb85 (by decide))
        refine RW.on_guard rfl rfl rfl rfl hk90 ?_
        refine RW.op1 rfl (runs_move rfl) ?_
        refine RW.on_guard rfl rfl rfl rfl hk90 ?_
        refine RW.op1 rfl (runs_move rfl) ?_
        refine RW.on_guard rfl rfl rfl rfl hk90 ?_
        refine RW.call rfl call9 rfl rfl (same_spec hst hS hT (by omega)) ?_
        rintro e w ⟨rfl, hstn⟩
        clear hst
        have hst := hstn
        clear hstn
        refine ⟨_, rfl, ?_⟩
        refine RW.on_guard rfl rfl rfl rfl hk90 ?_
        refine RW.op1 rfl (runs_not rfl) ?_
        refine RW.op1 rfl (runs_pick_false rfl hk90 rfl) ?_
        refine RW.done ?_
        exact AQ.meet () hst ⟨rfl, rfl, rfl, (show some (Value.bool (!decide ((if sealM e q p n b then sealB e q p n b else []) = (if sealM e q p n b then sealB e q p n b else [])))) = some (Value.bool false) by rw [decide_eq_true rfl]; rfl), rfl, rfl, rfl, rfl, trivial⟩
      · have hb85p := hb85
        try simp only [decide_eq_true_eq, decide_eq_false_iff_not] at hb85p
        refine RW.off_guard rfl rfl rfl rfl hb85 ?_
        refine RW.off_guard rfl rfl rfl rfl hb85 ?_
        refine RW.on_guard rfl rfl rfl rfl hk82 ?_
        refine RW.op1 rfl (runs_pick_false rfl hb85 rfl) ?_
        refine RW.op1 rfl (runs_pick_false rfl hk82 rfl) ?_
        refine RW.op1 rfl (runs_move rfl) ?_
        refine RW.on_guard rfl rfl rfl rfl rfl ?_
        refine RW.op1 rfl (runs_move rfl) ?_
        refine RW.on_guard rfl rfl rfl rfl rfl ?_
        refine RW.op1 rfl (runs_move rfl) ?_
        refine RW.on_guard rfl rfl rfl rfl rfl ?_
        refine RW.call rfl call9 rfl rfl (same_spec hst hS hT (by omega)) ?_
        rintro e w ⟨rfl, hstn⟩
        clear hst
        have hst := hstn
        clear hstn
        refine ⟨_, rfl, ?_⟩
        refine RW.on_guard rfl rfl rfl rfl rfl ?_
        refine RW.op1 rfl (runs_not rfl) ?_
        refine RW.op1 rfl (runs_pick_false rfl rfl rfl) ?_
        refine RW.done ?_
        exact AQ.meet () hst ⟨rfl, rfl, rfl, (show some (Value.bool (!decide ((if sealM e q p n b then sealB e q p n b else []) = (if sealM e q p n b then sealB e q p n b else [])))) = some (Value.bool false) by rw [decide_eq_true rfl]; rfl), rfl, rfl, rfl, rfl, trivial⟩
    · rintro _ w hstn
      clear hst
      have hst := hstn
      clear hstn
      refine AQ.next ?_
      refine CW.cond rfl (fun hc => absurd hc (by decide)) (fun hc => ?_)
      refine CW.skip ?_
      refine AQ.next ?_
      refine CW.seq ?_
      -- region 11
      refine CW.region ?_
      refine RW.op1 rfl (runs_move rfl) ?_
      refine RW.call rfl call16 rfl rfl (copy_own hst hT (by omega)) ?_
      rintro e w ⟨vX, LX, rfl, hstn, hgX⟩
      clear hst
      have hst := hstn
      clear hstn
      refine ⟨_, rfl, ?_⟩
      refine RW.op1 rfl (runs_assign rfl) ?_
      refine RW.done ?_
      refine AQ.next ?_
      refine CW.seq ?_
      refine CW.seq ?_
      -- region 12
      refine CW.cut Unit (fun _ w => St w0 w IT (LX ++ L)) (fun _ => [(4, vb), (22, vT), (24, vX), (102, .bool (raw || !(sealM e q p n b))), (6, .int .i64 at_), (7, .int .u8 (c.toNat : Int)), (8, .bool raw), (19, .func (.func 10) #[] #[])]) ?_ ?_
      · -- region 12
        refine CW.region ?_
        refine RW.op1 rfl (runs_move rfl) ?_
        refine RW.op1 rfl (runs_move rfl) ?_
        refine RW.split (t := 99) rfl (fun hb99 => ?_) (fun hb99 => ?_)
        · have hb99p := hb99
          try simp only [decide_eq_true_eq, decide_eq_false_iff_not] at hb99p
          refine RW.off_guard rfl rfl rfl rfl hb99 ?_
          refine RW.off_guard rfl rfl rfl rfl hb99 ?_
          refine RW.op1 rfl (runs_pick_true rfl hb99 rfl) ?_
          refine RW.done ?_
          exact AQ.meet () hst ⟨rfl, rfl, rfl, (by first | (show some (Value.bool true) = _; rw [hb99]; rfl) | (show some (Value.bool (!(sealM e q p n b))) = _; rw [hb99]; rfl)), rfl, rfl, rfl, rfl, trivial⟩
        · have hb99p := hb99
          try simp only [decide_eq_true_eq, decide_eq_false_iff_not] at hb99p
          refine RW.on_guard rfl rfl rfl rfl hb99 ?_
          refine RW.op1 rfl (runs_move rfl) ?_
          refine RW.on_guard rfl rfl rfl rfl hb99 ?_
          refine RW.op1 rfl (runs_not rfl) ?_
          refine RW.op1 rfl (runs_pick_false rfl hb99 rfl) ?_
          refine RW.done ?_
          exact AQ.meet () hst ⟨rfl, rfl, rfl, (by first | (show some (Value.bool true) = _; rw [hb99]; rfl) | (show some (Value.bool (!(sealM e q p n b))) = _; rw [hb99]; rfl)), rfl, rfl, rfl, rfl, trivial⟩
      · rintro _ w hstn
        clear hst
        have hst := hstn
        clear hstn
        refine AQ.next ?_
        refine CW.cut (Value × List UInt8 × Own) (fun y w => St w0 w IT (y.2.2 ++ L) ∧ GrowB 5 y.1 y.2.1 y.2.2 ∧ y.2.1.length = 32) (fun y => [(22, vT), (24, y.1), (6, .int .i64 at_), (7, .int .u8 (c.toNat : Int)), (8, .bool raw), (19, .func (.func 10) #[] #[])]) ?_ ?_
        · refine CW.cond rfl (fun hc102 => ?_) (fun hc102 => ?_)
          · have hcb102 := hc102
            try simp only [decide_eq_true_eq, decide_eq_false_iff_not] at hc102
            -- region 13
            refine CW.region ?_
            refine RW.op1 rfl (runs_move rfl) ?_
            refine RW.call rfl call16 rfl rfl (copy_own hst h4 (by omega)) ?_
            rintro e w ⟨vC, LC, rfl, hstn, hgC⟩
            clear hst
            have hst := hstn
            clear hstn
            refine ⟨_, rfl, ?_⟩
            refine RW.opE rfl (runs_appendZ (m := 32) Try.underlying22 ti5 Try.underlying3 rfl rfl hst hgC (by simp <;> omega)) ?_
            rintro uC w ⟨LD, hstn, hgD⟩
            clear hst
            have hst := hstn
            clear hstn
            have hdl : (b ++ List.replicate 32 (0 : UInt8)).length = b.length + 32 := by simp
            refine RW.op1 rfl (Grow.slice_h Try.underlying22 ti5 rfl rfl hgD (by omega)) ?_
            have hgE := GrowB.take hgD (hi := (32 : Int).toNat) (by rw [hdl]; show 32 ≤ _; omega)
            have hel : ((b ++ List.replicate 32 (0 : UInt8)).take (32 : Int).toNat).length = 32 := by rw [List.length_take, hdl]; show min 32 _ = 32; omega
            refine RW.op1 rfl (runs_assign rfl) ?_
            replace hst := hst.sub (List.Sublist.append_left (List.sublist_append_right _ _) _)
            refine RW.done ?_
            exact AQ.meet (_, _, _) ⟨hst, by assumption, by first | assumption | exact tb_len hc102⟩ ⟨rfl, rfl, rfl, rfl, rfl, rfl, trivial⟩
          · have hcb102 := hc102
            try simp only [decide_eq_true_eq, decide_eq_false_iff_not] at hc102
            refine CW.skip ?_
            exact AQ.meet (_, _, _) ⟨hst, by assumption, by first | assumption | exact tb_len hc102⟩ ⟨rfl, rfl, rfl, rfl, rfl, rfl, trivial⟩
        · rintro ⟨vx, x, Lx⟩ w ⟨hstn, hg, hxl⟩
          dsimp only at hstn hg hxl ⊢
          clear hst
          have hst := hstn
          clear hstn
          refine AQ.next ?_
          refine CW.seq ?_
          -- region 14
          refine CW.region ?_
          refine RW.op1 rfl (runs_move rfl) ?_
          refine RW.op1 rfl (runs_move rfl) ?_
          refine RW.op1 rfl (runs_move rfl) ?_
          refine RW.call rfl call10 rfl rfl (within_spec hst (v := at_) (n := 32) (by unfold i64ok; omega) (by unfold i64ok; omega)) ?_
          rintro e w ⟨rfl, hstn⟩
          clear hst
          have hst := hstn
          clear hstn
          have hw110 := within_range (at_) (32)
          generalize hx110 : within (at_) (32) = x110 at *
          refine ⟨_, rfl, ?_⟩
          obtain ⟨g, cap, cur, rfl, rfl, hcs, hget, hset⟩ := GrowB.opened hg (by omega)
          have hgp := hget x110.toNat (by omega)
          refine RW.op1 rfl (runs_indexAddr0 Try.underlying22 ti5 rfl rfl (by omega)) ?_
          refine RW.op1 rfl (runs_load1 sc5 rfl (hst.cell_own (k := 0) rfl (by rw [Nat.zero_add, Nat.mul_one]; exact hgp))) ?_
          refine RW.op1 rfl (runs_move rfl) ?_
          refine RW.op1 rfl (runs_xor rfl rfl) ?_
          refine RW.op1 rfl (runs_indexAddr0 Try.underlying22 ti5 rfl rfl (by omega)) ?_
          refine RW.opE0 (runs_store1' ti5 rfl rfl hst (k := 0) rfl (by omega) (NoFz.zero _) rfl) ?_
          rintro w hstn
          clear hst
          have hst := hstn
          clear hstn
          try simp only [List.set_cons_zero, List.set_cons_succ] at hst
          rw [xor8] at hst
          simp only [Nat.zero_add, Nat.mul_one, List.cons_append, List.nil_append, List.set_cons_zero] at hst
          obtain ⟨I20, hI20, hstn, hZ⟩ := GrowB.freeze (hset x110.toNat (x.getD x110.toNat 0 ^^^ c) (by omega)) hst
          clear hst
          have hst := hstn
          clear hstn
          replace hT := hT.mono hI20
          replace hle := hle.trans hI20
          have hzl : (x.set x110.toNat (x.getD x110.toNat 0 ^^^ c)).length = 32 := by rw [List.length_set]; exact hxl
          refine RW.done ?_
          refine AQ.next ?_
          refine CW.seq ?_
          refine CW.seq ?_
          -- region 15
          refine CW.cut (Imm × Value × List Value) (fun y w => I.le y.1 ∧ St w0 w y.1 L ∧ RdR y.1 y.2.1 y.2.2 [(x.set x110.toNat (x.getD x110.toNat 0 ^^^ c)), (x.set x110.toNat (x.getD x110.toNat 0 ^^^ c)).take 31, (if sealM e q p n b then sealB e q p n b else []), (x.set x110.toNat (x.getD x110.toNat 0 ^^^ c)) ++ [0]]) (fun y => [(125, y.2.1), (126, .int .i64 y.2.2.length), (127, .int .i64 0)]) ?_ ?_
          · -- region 15
            refine CW.drawSt hst (.q 0 (.q 1 (.q 2 (.q 3 (.q 5 (.q 11 (.fork (.l 4 (.fork (.l 6 (.l 7 (.l 8 (.l 9 (.q 10 .nil))))) (.l 7 (.l 6 (.l 8 (.l 9 (.q 10 .nil))))))) (.l 7 (.l 4 (.l 6 (.l 8 (.l 9 (.q 10 .nil))))))))))))) follows (by kernel_rfl) (fun w hst => ?_)
            refine DRW.q rfl rfl (fun w' hF => runs_move rfl) ?_
            refine DRW.q rfl rfl (fun w' hF => runs_move rfl) ?_
            have hp118 : RdB _ (partV _ 0 (31 : Int).toNat 1) ((x.set x110.toNat (x.getD x110.toNat 0 ^^^ c)).take 31) := RdB.part hZ (by omega) (by omega)
            refine DRW.q rfl rfl (fun w' hF => RdL.slice_h Try.underlying22 ti5 rfl rfl hZ (by omega)) ?_
            refine DRW.q rfl rfl (fun w' hF => runs_move rfl) ?_
            refine DRW.q rfl rfl (fun w' hF => runs_move rfl) ?_
            refine DRW.q rfl rfl (fun w' hF => runs_move rfl) ?_
            refine DRW.fork ?_ ?_
            · refine DRW.call rfl rfl call16 rfl rfl (copy_spec hst hT (by omega)) ?_
              rintro e w ⟨I16, vC2, hI16, rfl, hstn, hC2⟩
              clear hst
              have hst := hstn
              clear hstn
              replace hT := hT.mono hI16
              replace hZ := hZ.mono hI16
              replace hp118 := hp118.mono hI16
              replace hle := hle.trans hI16
              refine ⟨_, rfl, FSt.of hst hI16 (by first | exact (List.sublist_cons_self _ _).trans (List.sublist_append_right _ _) | exact List.Sublist.refl _ | exact List.sublist_cons_self _ _ | exact List.sublist_append_right _ _ | exact (List.sublist_cons_self _ _).trans (List.sublist_cons_self _ _) | exact (List.sublist_append_right _ _).trans (List.sublist_cons_self _ _) | simp), ?_⟩
              refine DRW.fork ?_ ?_
              · refine DRW.call rfl rfl call16 rfl rfl (copy_own hst hZ (by omega)) ?_
                rintro e w ⟨vD2, LD2, rfl, hstn, hgD2⟩
                clear hst
                have hst := hstn
                clear hstn
                refine ⟨_, rfl, FSt.of hst hI16 (by first | exact (List.sublist_cons_self _ _).trans (List.sublist_append_right _ _) | exact List.Sublist.refl _ | exact List.sublist_cons_self _ _ | exact List.sublist_append_right _ _ | exact (List.sublist_cons_self _ _).trans (List.sublist_cons_self _ _) | exact (List.sublist_append_right _ _).trans (List.sublist_cons_self _ _) | simp), ?_⟩
                refine DRW.opE rfl rfl (runs_litB (bs := [0]) rfl Try.underlying22 ti5 (by decide) rfl rfl rfl hst) ?_
                rintro u18 w ⟨I18, hI18, hstn, h18⟩
                clear hst
                have hst := hstn
                clear hstn
                replace hT := hT.mono hI18
                replace hZ := hZ.mono hI18
                replace hp118 := hp118.mono hI18
                replace hC2 := hC2.mono hI18
                replace hle := hle.trans hI18
                refine ⟨FSt.of hst (hI16.trans hI18) (by first | exact (List.sublist_cons_self _ _).trans (List.sublist_append_right _ _) | exact List.Sublist.refl _ | exact List.sublist_cons_self _ _ | exact List.sublist_append_right _ _ | exact (List.sublist_cons_self _ _).trans (List.sublist_cons_self _ _) | exact (List.sublist_append_right _ _).trans (List.sublist_cons_self _ _) | simp), ?_⟩
                have h123 := h18
                refine DRW.opE rfl rfl (runs_appendB Try.underlying22 ti5 rfl rfl hst hgD2 h123 (by rw [hzl]; decide)) ?_
                rintro u19 w ⟨Lv19, hstn, hg19⟩
                clear hst
                have hst := hstn
                clear hstn
                refine ⟨FSt.of hst (hI16.trans hI18) (by first | exact (List.sublist_cons_self _ _).trans (List.sublist_append_right _ _) | exact List.Sublist.refl _ | exact List.sublist_cons_self _ _ | exact List.sublist_append_right _ _ | exact (List.sublist_cons_self _ _).trans (List.sublist_cons_self _ _) | exact (List.sublist_append_right _ _).trans (List.sublist_cons_self _ _) | simp), ?_⟩
                obtain ⟨J19, hJ19, hstn, h19⟩ := GrowB.freeze hg19 hst
                clear hst
                have hst := hstn
                clear hstn
                replace hT := hT.mono hJ19
                replace hZ := hZ.mono hJ19
                replace hp118 := hp118.mono hJ19
                replace hC2 := hC2.mono hJ19
                replace h18 := h18.mono hJ19
                replace h123 := h123.mono hJ19
                replace hle := hle.trans hJ19
                try simp only [List.nil_append] at h19
                have h124 := h19
                refine DRW.opE rfl rfl (runs_lit1R (xs := [_, _, _, _]) Try.underlying44 ti22 (by decide) rfl rfl rfl (one4 hZ.one hp118.one hC2.one h124.one) hst) ?_
                rintro u20 w ⟨I20, hI20, hstn, h20⟩
                clear hst
                have hst := hstn
                clear hstn
                replace hT := hT.mono hI20
                replace hZ := hZ.mono hI20
                replace hp118 := hp118.mono hI20
                replace hC2 := hC2.mono hI20
                replace h18 := h18.mono hI20
                replace h123 := h123.mono hI20
                replace h19 := h19.mono hI20
                replace h124 := h124.mono hI20
                replace hle := hle.trans hI20
                refine ⟨FSt.of hst (((hI16.trans hI18).trans hJ19).trans hI20) (by first | exact (List.sublist_cons_self _ _).trans (List.sublist_append_right _ _) | exact List.Sublist.refl _ | exact List.sublist_cons_self _ _ | exact List.sublist_append_right _ _ | exact (List.sublist_cons_self _ _).trans (List.sublist_cons_self _ _) | exact (List.sublist_append_right _ _).trans (List.sublist_cons_self _ _) | simp), ?_⟩
                have hR := rows4 h20 hZ hp118 hC2 h124
                refine DRW.q rfl rfl (fun w' hF => RdL.len Try.underlying44 rfl hR.1) ?_
                refine DRW.done ?_
                exact AQ.meet (_, _, _) ⟨hle, hst, hR⟩ ⟨rfl, rfl, rfl, trivial⟩
              refine DRW.opE rfl rfl (runs_litB (bs := [0]) rfl Try.underlying22 ti5 (by decide) rfl rfl rfl hst) ?_
              rintro u21 w ⟨I21, hI21, hstn, h21⟩
              clear hst
              have hst := hstn
              clear hstn
              replace hT := hT.mono hI21
              replace hZ := hZ.mono hI21
              replace hp118 := hp118.mono hI21
              replace hC2 := hC2.mono hI21
              replace hle := hle.trans hI21
              refine ⟨FSt.of hst (hI16.trans hI21) (by first | exact (List.sublist_cons_self _ _).trans (List.sublist_append_right _ _) | exact List.Sublist.refl _ | exact List.sublist_cons_self _ _ | exact List.sublist_append_right _ _ | exact (List.sublist_cons_self _ _).trans (List.sublist_cons_self _ _) | exact (List.sublist_append_right _ _).trans (List.sublist_cons_self _ _) | simp), ?_⟩
              have h123 := h21
              refine DRW.call rfl rfl call16 rfl rfl (copy_own hst hZ (by omega)) ?_
              rintro e w ⟨vD2, LD2, rfl, hstn, hgD2⟩
              clear hst
              have hst := hstn
              clear hstn
              refine ⟨_, rfl, FSt.of hst (hI16.trans hI21) (by first | exact (List.sublist_cons_self _ _).trans (List.sublist_append_right _ _) | exact List.Sublist.refl _ | exact List.sublist_cons_self _ _ | exact List.sublist_append_right _ _ | exact (List.sublist_cons_self _ _).trans (List.sublist_cons_self _ _) | exact (List.sublist_append_right _ _).trans (List.sublist_cons_self _ _) | simp), ?_⟩
              refine DRW.opE rfl rfl (runs_appendB Try.underlying22 ti5 rfl rfl hst hgD2 h123 (by rw [hzl]; decide)) ?_
              rintro u23 w ⟨Lv23, hstn, hg23⟩
              clear hst
              have hst := hstn
              clear hstn
              refine ⟨FSt.of hst (hI16.trans hI21) (by first | exact (List.sublist_cons_self _ _).trans (List.sublist_append_right _ _) | exact List.Sublist.refl _ | exact List.sublist_cons_self _ _ | exact List.sublist_append_right _ _ | exact (List.sublist_cons_self _ _).trans (List.sublist_cons_self _ _) | exact (List.sublist_append_right _ _).trans (List.sublist_cons_self _ _) | simp), ?_⟩
              obtain ⟨J23, hJ23, hstn, h23⟩ := GrowB.freeze hg23 hst
              clear hst
              have hst := hstn
              clear hstn
              replace hT := hT.mono hJ23
              replace hZ := hZ.mono hJ23
              replace hp118 := hp118.mono hJ23
              replace hC2 := hC2.mono hJ23
              replace h21 := h21.mono hJ23
              replace h123 := h123.mono hJ23
              replace hle := hle.trans hJ23
              try simp only [List.nil_append] at h23
              have h124 := h23
              refine DRW.opE rfl rfl (runs_lit1R (xs := [_, _, _, _]) Try.underlying44 ti22 (by decide) rfl rfl rfl (one4 hZ.one hp118.one hC2.one h124.one) hst) ?_
              rintro u24 w ⟨I24, hI24, hstn, h24⟩
              clear hst
              have hst := hstn
              clear hstn
              replace hT := hT.mono hI24
              replace hZ := hZ.mono hI24
              replace hp118 := hp118.mono hI24
              replace hC2 := hC2.mono hI24
              replace h21 := h21.mono hI24
              replace h123 := h123.mono hI24
              replace h23 := h23.mono hI24
              replace h124 := h124.mono hI24
              replace hle := hle.trans hI24
              refine ⟨FSt.of hst (((hI16.trans hI21).trans hJ23).trans hI24) (by first | exact (List.sublist_cons_self _ _).trans (List.sublist_append_right _ _) | exact List.Sublist.refl _ | exact List.sublist_cons_self _ _ | exact List.sublist_append_right _ _ | exact (List.sublist_cons_self _ _).trans (List.sublist_cons_self _ _) | exact (List.sublist_append_right _ _).trans (List.sublist_cons_self _ _) | simp), ?_⟩
              have hR := rows4 h24 hZ hp118 hC2 h124
              refine DRW.q rfl rfl (fun w' hF => RdL.len Try.underlying44 rfl hR.1) ?_
              refine DRW.done ?_
              exact AQ.meet (_, _, _) ⟨hle, hst, hR⟩ ⟨rfl, rfl, rfl, trivial⟩
            refine DRW.opE rfl rfl (runs_litB (bs := [0]) rfl Try.underlying22 ti5 (by decide) rfl rfl rfl hst) ?_
            rintro u25 w ⟨I25, hI25, hstn, h25⟩
            clear hst
            have hst := hstn
            clear hstn
            replace hT := hT.mono hI25
            replace hZ := hZ.mono hI25
            replace hp118 := hp118.mono hI25
            replace hle := hle.trans hI25
            refine ⟨FSt.of hst hI25 (by first | exact (List.sublist_cons_self _ _).trans (List.sublist_append_right _ _) | exact List.Sublist.refl _ | exact List.sublist_cons_self _ _ | exact List.sublist_append_right _ _ | exact (List.sublist_cons_self _ _).trans (List.sublist_cons_self _ _) | exact (List.sublist_append_right _ _).trans (List.sublist_cons_self _ _) | simp), ?_⟩
            have h123 := h25
            refine DRW.call rfl rfl call16 rfl rfl (copy_spec hst hT (by omega)) ?_
            rintro e w ⟨I26, vC2, hI26, rfl, hstn, hC2⟩
            clear hst
            have hst := hstn
            clear hstn
            replace hT := hT.mono hI26
            replace hZ := hZ.mono hI26
            replace hp118 := hp118.mono hI26
            replace h25 := h25.mono hI26
            replace h123 := h123.mono hI26
            replace hle := hle.trans hI26
            refine ⟨_, rfl, FSt.of hst (hI25.trans hI26) (by first | exact (List.sublist_cons_self _ _).trans (List.sublist_append_right _ _) | exact List.Sublist.refl _ | exact List.sublist_cons_self _ _ | exact List.sublist_append_right _ _ | exact (List.sublist_cons_self _ _).trans (List.sublist_cons_self _ _) | exact (List.sublist_append_right _ _).trans (List.sublist_cons_self _ _) | simp), ?_⟩
            refine DRW.call rfl rfl call16 rfl rfl (copy_own hst hZ (by omega)) ?_
            rintro e w ⟨vD2, LD2, rfl, hstn, hgD2⟩
            clear hst
            have hst := hstn
            clear hstn
            refine ⟨_, rfl, FSt.of hst (hI25.trans hI26) (by first | exact (List.sublist_cons_self _ _).trans (List.sublist_append_right _ _) | exact List.Sublist.refl _ | exact List.sublist_cons_self _ _ | exact List.sublist_append_right _ _ | exact (List.sublist_cons_self _ _).trans (List.sublist_cons_self _ _) | exact (List.sublist_append_right _ _).trans (List.sublist_cons_self _ _) | simp), ?_⟩
            refine DRW.opE rfl rfl (runs_appendB Try.underlying22 ti5 rfl rfl hst hgD2 h123 (by rw [hzl]; decide)) ?_
            rintro u28 w ⟨Lv28, hstn, hg28⟩
            clear hst
            have hst := hstn
            clear hstn
            refine ⟨FSt.of hst (hI25.trans hI26) (by first | exact (List.sublist_cons_self _ _).trans (List.sublist_append_right _ _) | exact List.Sublist.refl _ | exact List.sublist_cons_self _ _ | exact List.sublist_append_right _ _ | exact (List.sublist_cons_self _ _).trans (List.sublist_cons_self _ _) | exact (List.sublist_append_right _ _).trans (List.sublist_cons_self _ _) | simp), ?_⟩
            obtain ⟨J28, hJ28, hstn, h28⟩ := GrowB.freeze hg28 hst
            clear hst
            have hst := hstn
            clear hstn
            replace hT := hT.mono hJ28
            replace hZ := hZ.mono hJ28
            replace hp118 := hp118.mono hJ28
            replace h25 := h25.mono hJ28
            replace h123 := h123.mono hJ28
            replace hC2 := hC2.mono hJ28
            replace hle := hle.trans hJ28
            try simp only [List.nil_append] at h28
            have h124 := h28
            refine DRW.opE rfl rfl (runs_lit1R (xs := [_, _, _, _]) Try.underlying44 ti22 (by decide) rfl rfl rfl (one4 hZ.one hp118.one hC2.one h124.one) hst) ?_
            rintro u29 w ⟨I29, hI29, hstn, h29⟩
            clear hst
            have hst := hstn
            clear hstn
            replace hT := hT.mono hI29
            replace hZ := hZ.mono hI29
            replace hp118 := hp118.mono hI29
            replace h25 := h25.mono hI29
            replace h123 := h123.mono hI29
            replace hC2 := hC2.mono hI29
            replace h28 := h28.mono hI29
            replace h124 := h124.mono hI29
            replace hle := hle.trans hI29
            refine ⟨FSt.of hst (((hI25.trans hI26).trans hJ28).trans hI29) (by first | exact (List.sublist_cons_self _ _).trans (List.sublist_append_right _ _) | exact List.Sublist.refl _ | exact List.sublist_cons_self _ _ | exact List.sublist_append_right _ _ | exact (List.sublist_cons_self _ _).trans (List.sublist_cons_self _ _) | exact (List.sublist_append_right _ _).trans (List.sublist_cons_self _ _) | simp), ?_⟩
            have hR := rows4 h29 hZ hp118 hC2 h124
            refine DRW.q rfl rfl (fun w' hF => RdL.len Try.underlying44 rfl hR.1) ?_
            refine DRW.done ?_
            exact AQ.meet (_, _, _) ⟨hle, hst, hR⟩ ⟨rfl, rfl, rfl, trivial⟩
          · rintro ⟨J, vR, vs⟩ w ⟨hle, hstn, hR⟩
            dsimp only at hle hstn hR ⊢
            clear hst
            have hst := hstn
            clear hstn
            have hvl : vs.length = 4 := hR.2.1
            have hle0 := hle
            refine AQ.next ?_
            refine CW.block ?_
            -- loop 1
            refine CW.loop (Nat × Imm) (fun x w => J.le x.2 ∧ St w0 w x.2 L ∧ x.1 ≤ 4) (fun x => [(125, vR), (126, .int .i64 vs.length), (127, .int .i64 (x.1 : Int))]) (fun x => 4 - x.1) ⟨(0, J), ⟨Imm.le.refl _, hst, by omega⟩, ⟨rfl, rfl, rfl, trivial⟩⟩ ?_
            rintro ⟨k, I5⟩ w ⟨hle, hstn, hk⟩
            dsimp only at hle hstn hk ⊢
            clear hst
            have hst := hstn
            clear hstn
            have hR5 := hR.mono hle
            refine CW.seq ?_
            -- region 16
            refine CW.region ?_
            refine RW.op1 rfl (runs_lss rfl rfl) ?_
            refine RW.done ?_
            refine AQ.next ?_
            refine CW.seq ?_
            refine CW.cond rfl (fun hc128 => ?_) (fun hc128 => ?_)
            · have hcb128 := hc128
              try simp only [decide_eq_true_eq, decide_eq_false_iff_not] at hc128
              obtain ⟨y, hy, hyl⟩ : ∃ y, RdB I5 (vs.getD (k : Int).toNat (.slice none 0 0)) y ∧ y.length ≤ 33 := ⟨_, hR5.row (by omega), getD4_len (by omega) (by rw [List.length_take]; omega) (by omega) (by rw [List.length_append, hzl]; decide) _⟩
              refine CW.skip ?_
              refine AQ.next ?_
              refine CW.seq ?_
              refine CW.block ?_
              refine CW.seq ?_
              -- region 17
              refine CW.region ?_
              refine RW.op1 rfl (RdL.indexAddr Try.underlying44 ti22 (by decide) rfl rfl hR5.1 (by omega)) ?_
              refine RW.op1 rfl (runs_load1 sc22 rfl (hst.cell_imm (RdR.at hR5 (by omega) (by omega)))) ?_
              refine RW.op1 rfl (runs_assign rfl) ?_
              refine RW.done ?_
              refine AQ.next ?_
              refine CW.seq ?_
              -- region 18
              refine CW.region ?_
              refine RW.op1 rfl (runs_move rfl) ?_
              refine RW.call rfl call11 rfl rfl (open_spec hst hy (by omega)) ?_
              rintro e w ⟨I30, vd, hI30, rfl, hstn, hd⟩
              clear hst
              have hst := hstn
              clear hstn
              replace hy := hy.mono hI30
              replace hle := hle.trans hI30
              refine ⟨_, rfl, ?_⟩
              refine RW.op1 rfl (runs_move rfl) ?_
              refine RW.op1 rfl (runs_extract rfl rfl) ?_
              refine RW.op1 rfl (runs_extract rfl rfl) ?_
              refine RW.op1 rfl (runs_extract rfl rfl) ?_
              refine RW.op1 rfl (runs_extract rfl rfl) ?_
              refine RW.op1 rfl (runs_extract rfl rfl) ?_
              refine RW.opE rfl (runs_alloc ti27 hst) ?_
              rintro _ w ⟨b31, rfl, hstn⟩
              clear hst
              have hst := hstn
              clear hstn
              first
                | refine RW.opE0 (runs_storeW ti27 rfl rfl hst (k := 0) rfl rfl rfl (NoFz.zero _) rfl) ?_
                | refine RW.opE0 (runs_storeP ti27 rfl rfl hst (k := 0) rfl rfl rfl (NoFz.zero _) rfl) ?_
                | refine RW.opE0 (runs_storeW ti27 rfl rfl hst (k := 1) rfl rfl rfl (NoFz.zero _) rfl) ?_
                | refine RW.opE0 (runs_storeP ti27 rfl rfl hst (k := 1) rfl rfl rfl (NoFz.zero _) rfl) ?_
                | refine RW.opE0 (runs_storeW ti27 rfl rfl hst (k := 2) rfl rfl rfl (NoFz.zero _) rfl) ?_
                | refine RW.opE0 (runs_storeP ti27 rfl rfl hst (k := 2) rfl rfl rfl (NoFz.zero _) rfl) ?_
              rintro w hstn
              clear hst
              have hst := hstn
              clear hstn
              try simp only [List.set_cons_zero, List.set_cons_succ] at hst
              refine RW.op1 rfl (runs_assign rfl) ?_
              refine RW.op1 rfl (runs_assign rfl) ?_
              refine RW.op1 rfl (runs_assign rfl) ?_
              refine RW.op1 rfl (runs_assign rfl) ?_
              refine RW.done ?_
              refine AQ.next ?_
              refine CW.seq ?_
              -- region 19
              refine CW.region ?_
              refine RW.op1 rfl (runs_move rfl) ?_
              refine RW.call rfl call17 rfl rfl (refOpen_spec hst hy (by omega)) ?_
              rintro e w ⟨I33, vk, hI33, rfl, hstn, hkk⟩
              clear hst
              have hst := hstn
              clear hstn
              replace hd := hd.mono hI33
              replace hy := hy.mono hI33
              replace hle := hle.trans hI33
              refine ⟨_, rfl, ?_⟩
              refine RW.op1 rfl (runs_move rfl) ?_
              refine RW.op1 rfl (runs_extract rfl rfl) ?_
              refine RW.op1 rfl (runs_extract rfl rfl) ?_
              refine RW.op1 rfl (runs_extract rfl rfl) ?_
              refine RW.op1 rfl (runs_extract rfl rfl) ?_
              refine RW.op1 rfl (runs_extract rfl rfl) ?_
              refine RW.op1 rfl (runs_extract rfl rfl) ?_
              refine RW.op1 rfl (runs_assign rfl) ?_
              refine RW.op1 rfl (runs_assign rfl) ?_
              refine RW.op1 rfl (runs_assign rfl) ?_
              refine RW.op1 rfl (runs_assign rfl) ?_
              refine RW.op1 rfl (runs_assign rfl) ?_
              refine RW.op1 rfl (runs_assign rfl) ?_
              refine RW.done ?_
              refine AQ.next ?_
              refine CW.seq ?_
              -- region 20
              refine CW.region ?_
              refine RW.op1 rfl (runs_move rfl) ?_
              refine RW.op1 rfl (runs_eqI rfl rfl) ?_
              refine RW.op1 rfl (runs_move rfl) ?_
              refine RW.op1 rfl (runs_neB Try.underlying4 rfl rfl) ?_
              refine RW.op1 rfl (runs_move rfl) ?_
              have hk152 := (show (!(decide ((openR y).err = 0) == openOk y)) = false by rw [openR_err]; cases openOk y <;> rfl)
              refine RW.on_guard rfl rfl rfl rfl hk152 ?_
              refine RW.op1 rfl (runs_move rfl) ?_
              refine RW.on_guard rfl rfl rfl rfl hk152 ?_
              refine RW.op1 rfl (runs_not rfl) ?_
              refine RW.on_guard rfl rfl rfl rfl hk152 ?_
              refine RW.op1 rfl (runs_move rfl) ?_
              refine RW.split (t := 155) rfl (fun hb155 => ?_) (fun hb155 => ?_)
              · have hb155p := hb155
                try simp only [decide_eq_true_eq, decide_eq_false_iff_not] at hb155p
                refine RW.on_guard rfl rfl rfl rfl hb155 ?_
                refine RW.op1 rfl (runs_move rfl) ?_
                refine RW.on_guard rfl rfl rfl rfl hb155 ?_
                refine RW.op1 rfl (runs_neI rfl rfl) ?_
                refine RW.on_guard rfl rfl rfl rfl hk152 ?_
                refine RW.op1 rfl (runs_pick_true rfl hb155 rfl) ?_
                refine RW.op1 rfl (runs_pick_false rfl hk152 rfl) ?_
                refine RW.op1 rfl (runs_move rfl) ?_
                have hk160 := (show decide ((openR y).err ≠ 2) = false by rw [openR_err]; cases ho : openOk y with
                  | false => rfl
                  | true => rw [ho] at hb155; exact absurd hb155 (by decide))
                refine RW.on_guard rfl rfl rfl rfl hk160 ?_
                first
                  | refine RW.op1 rfl (runs_loadN (vs := [_, _]) ag27 ti27 rfl hst (k := 0) rfl rfl rfl) ?_
                  | refine RW.op1 rfl (runs_loadN (vs := [_, _]) ag27 ti27 rfl hst (k := 1) rfl rfl rfl) ?_
                  | refine RW.op1 rfl (runs_loadN (vs := [_, _]) ag27 ti27 rfl hst (k := 2) rfl rfl rfl) ?_
                refine RW.on_guard rfl rfl rfl rfl hk160 ?_
                refine RW.op1 rfl (runs_move rfl) ?_
                refine RW.on_guard rfl rfl rfl rfl hk160 ?_
                refine RW.op1 rfl (runs_move rfl) ?_
                refine RW.on_guard rfl rfl rfl rfl hk160 ?_
                refine RW.op1 rfl (runs_buildF (cells := [_, _]) bz27 rfl rfl rfl rfl rfl) ?_
                refine RW.on_guard rfl rfl rfl rfl hk160 ?_
                refine RW.op1 rfl (runs_neZ (xs := [_, _]) (ys := [_, _]) ez27 rfl rfl rfl rfl) ?_
                refine RW.op1 rfl (runs_pick_false rfl hk160 rfl) ?_
                refine RW.op1 rfl (runs_move rfl) ?_
                have hk167 := (show (!decide ([(openR y).e, (openR y).q] = [(openR y).e, (openR y).q])) = false by simp)
                refine RW.on_guard rfl rfl rfl rfl hk167 ?_
                refine RW.op1 rfl (runs_move rfl) ?_
                refine RW.on_guard rfl rfl rfl rfl hk167 ?_
                refine RW.op1 rfl (runs_move rfl) ?_
                refine RW.on_guard rfl rfl rfl rfl hk167 ?_
                refine RW.op1 rfl (runs_neI rfl rfl) ?_
                refine RW.op1 rfl (runs_pick_false rfl hk167 rfl) ?_
                refine RW.op1 rfl (runs_move rfl) ?_
                have hk172 := (show decide ((openR y).p ≠ (openR y).p) = false by simp)
                refine RW.on_guard rfl rfl rfl rfl hk172 ?_
                refine RW.op1 rfl (runs_move rfl) ?_
                refine RW.on_guard rfl rfl rfl rfl hk172 ?_
                refine RW.op1 rfl (runs_move rfl) ?_
                refine RW.on_guard rfl rfl rfl rfl hk172 ?_
                refine RW.op1 rfl (runs_neI rfl rfl) ?_
                refine RW.op1 rfl (runs_pick_false rfl hk172 rfl) ?_
                refine RW.op1 rfl (runs_move rfl) ?_
                have hk177 := (show decide ((openR y).n ≠ (openR y).n) = false by simp)
                refine RW.on_guard rfl rfl rfl rfl hk177 ?_
                refine RW.op1 rfl (runs_move rfl) ?_
                refine RW.on_guard rfl rfl rfl rfl hk177 ?_
                refine RW.op1 rfl (runs_move rfl) ?_
                refine RW.on_guard rfl rfl rfl rfl hk177 ?_
                refine RW.call rfl call9 rfl rfl (same_spec hst hd hkk (Nat.le_trans (openR_len y) (by omega))) ?_
                rintro e w ⟨rfl, hstn⟩
                clear hst
                have hst := hstn
                clear hstn
                refine ⟨_, rfl, ?_⟩
                refine RW.on_guard rfl rfl rfl rfl hk177 ?_
                refine RW.op1 rfl (runs_not rfl) ?_
                refine RW.op1 rfl (runs_pick_false rfl hk177 rfl) ?_
                refine RW.done ?_
                refine AQ.next ?_
                refine CW.cond rfl (fun hc => absurd hc (by simp)) (fun hc => ?_)
                refine CW.skip ?_
                refine AQ.block_normal ?_
                refine AQ.next ?_
                -- region 22
                refine CW.region ?_
                refine RW.op1 rfl (runs_add rfl rfl (by omega)) ?_
                refine RW.op1 rfl (runs_move rfl) ?_
                refine RW.done ?_
                exact AQ.again (x := (k, I5)) (k + 1, _) ⟨hle, hst.drop1, by omega⟩ ⟨rfl, rfl, rfl, trivial⟩ (by dsimp only; omega)
              · have hb155p := hb155
                try simp only [decide_eq_true_eq, decide_eq_false_iff_not] at hb155p
                refine RW.off_guard rfl rfl rfl rfl hb155 ?_
                refine RW.off_guard rfl rfl rfl rfl hb155 ?_
                refine RW.on_guard rfl rfl rfl rfl hk152 ?_
                refine RW.op1 rfl (runs_pick_false rfl hb155 rfl) ?_
                refine RW.op1 rfl (runs_pick_false rfl hk152 rfl) ?_
                refine RW.op1 rfl (runs_move rfl) ?_
                refine RW.on_guard rfl rfl rfl rfl rfl ?_
                first
                  | refine RW.op1 rfl (runs_loadN (vs := [_, _]) ag27 ti27 rfl hst (k := 0) rfl rfl rfl) ?_
                  | refine RW.op1 rfl (runs_loadN (vs := [_, _]) ag27 ti27 rfl hst (k := 1) rfl rfl rfl) ?_
                  | refine RW.op1 rfl (runs_loadN (vs := [_, _]) ag27 ti27 rfl hst (k := 2) rfl rfl rfl) ?_
                refine RW.on_guard rfl rfl rfl rfl rfl ?_
                refine RW.op1 rfl (runs_move rfl) ?_
                refine RW.on_guard rfl rfl rfl rfl rfl ?_
                refine RW.op1 rfl (runs_move rfl) ?_
                refine RW.on_guard rfl rfl rfl rfl rfl ?_
                refine RW.op1 rfl (runs_buildF (cells := [_, _]) bz27 rfl rfl rfl rfl rfl) ?_
                refine RW.on_guard rfl rfl rfl rfl rfl ?_
                refine RW.op1 rfl (runs_neZ (xs := [_, _]) (ys := [_, _]) ez27 rfl rfl rfl rfl) ?_
                refine RW.op1 rfl (runs_pick_false rfl rfl rfl) ?_
                refine RW.op1 rfl (runs_move rfl) ?_
                have hk167 := (show (!decide ([(openR y).e, (openR y).q] = [(openR y).e, (openR y).q])) = false by simp)
                refine RW.on_guard rfl rfl rfl rfl hk167 ?_
                refine RW.op1 rfl (runs_move rfl) ?_
                refine RW.on_guard rfl rfl rfl rfl hk167 ?_
                refine RW.op1 rfl (runs_move rfl) ?_
                refine RW.on_guard rfl rfl rfl rfl hk167 ?_
                refine RW.op1 rfl (runs_neI rfl rfl) ?_
                refine RW.op1 rfl (runs_pick_false rfl hk167 rfl) ?_
                refine RW.op1 rfl (runs_move rfl) ?_
                have hk172 := (show decide ((openR y).p ≠ (openR y).p) = false by simp)
                refine RW.on_guard rfl rfl rfl rfl hk172 ?_
                refine RW.op1 rfl (runs_move rfl) ?_
                refine RW.on_guard rfl rfl rfl rfl hk172 ?_
                refine RW.op1 rfl (runs_move rfl) ?_
                refine RW.on_guard rfl rfl rfl rfl hk172 ?_
                refine RW.op1 rfl (runs_neI rfl rfl) ?_
                refine RW.op1 rfl (runs_pick_false rfl hk172 rfl) ?_
                refine RW.op1 rfl (runs_move rfl) ?_
                have hk177 := (show decide ((openR y).n ≠ (openR y).n) = false by simp)
                refine RW.on_guard rfl rfl rfl rfl hk177 ?_
                refine RW.op1 rfl (runs_move rfl) ?_
                refine RW.on_guard rfl rfl rfl rfl hk177 ?_
                refine RW.op1 rfl (runs_move rfl) ?_
                refine RW.on_guard rfl rfl rfl rfl hk177 ?_
                refine RW.call rfl call9 rfl rfl (same_spec hst hd hkk (Nat.le_trans (openR_len y) (by omega))) ?_
                rintro e w ⟨rfl, hstn⟩
                clear hst
                have hst := hstn
                clear hstn
                refine ⟨_, rfl, ?_⟩
                refine RW.on_guard rfl rfl rfl rfl hk177 ?_
                refine RW.op1 rfl (runs_not rfl) ?_
                refine RW.op1 rfl (runs_pick_false rfl hk177 rfl) ?_
                refine RW.done ?_
                refine AQ.next ?_
                refine CW.cond rfl (fun hc => absurd hc (by simp)) (fun hc => ?_)
                refine CW.skip ?_
                refine AQ.block_normal ?_
                refine AQ.next ?_
                -- region 22
                refine CW.region ?_
                refine RW.op1 rfl (runs_add rfl rfl (by omega)) ?_
                refine RW.op1 rfl (runs_move rfl) ?_
                refine RW.done ?_
                exact AQ.again (x := (k, I5)) (k + 1, _) ⟨hle, hst.drop1, by omega⟩ ⟨rfl, rfl, rfl, trivial⟩ (by dsimp only; omega)
            · have hcb128 := hc128
              try simp only [decide_eq_true_eq, decide_eq_false_iff_not] at hc128
              skip
              refine CW.exit ?_
              refine AQ.past_exit ?_
              refine AQ.past_exit ?_
              refine AQ.block_hit ?_
              refine AQ.next ?_
              refine CW.seq ?_
              -- region 23
              refine CW.region ?_
              refine RW.call rfl call12 rfl rfl (wakes_spec hst) ?_
              rintro e w ⟨rfl, I36, hI36, hstn⟩
              clear hst
              have hst := hstn
              clear hstn
              replace hle := hle.trans hI36
              refine ⟨_, rfl, ?_⟩
              refine RW.op1 rfl (runs_assign rfl) ?_
              refine RW.done ?_
              refine AQ.next ?_
              refine CW.ret ?_
              refine AQ.ret1 rfl rfl ?_
              exact ⟨rfl, _, hle0.trans hle, hst⟩
end Go.Proofs.YtnnaplcddhjfbaaX
