/- The log's small functions, its slots: what these come to. -/
import Derived.Test.YthocicjjighbnaaT
import Derived.Test.YthocicjjighbnaaG0
namespace Go.Proofs.YthocicjjighbnaaX
set_option linter.unusedVariables false
set_option linter.unusedSimpArgs false
open Go Go.RowKit Go.Proofs

set_option maxRecDepth 100000 in
set_option maxHeartbeats 1000000 in
theorem fits_spec {w0 w : World} {I : Imm} {L Ld : Own} {d : Value} {S : DS} (hd : DiskO d S Ld) (hst : St w0 w I (Ld ++ L)) :
    Calls Try.prog 29 #[d] w fun e w' => e = .returned (.bool (decide ((S.secs.length : Int) = 514))) ∧ St w0 w' I (Ld ++ L) := by
  refine enter Try.func29 rfl (N := 6) rfl rfl ?_
  simp only [List.zipIdx_cons, List.zipIdx_nil, List.map_cons, List.map_nil, Nat.zero_add, Nat.reduceAdd]
  have hle := Imm.le.refl I
  refine CW.seq ?_
  -- region 0
  refine CW.region ?_
  refine RW.op1 rfl (runs_assign rfl) ?_
  refine RW.done ?_
  refine AQ.next ?_
  refine CW.seq ?_
  -- region 1
  refine CW.region ?_
  refine RW.op1 rfl (runs_move rfl) ?_
  refine RW.call rfl call30 rfl rfl (len_spec hd hst) ?_
  rintro e w ⟨rfl, hstn⟩
  clear hst
  have hst := hstn
  clear hstn
  refine ⟨_, rfl, ?_⟩
  refine RW.op1 rfl (runs_eqI rfl rfl) ?_
  refine RW.op1 rfl (runs_assign rfl) ?_
  refine RW.done ?_
  refine AQ.next ?_
  refine CW.ret ?_
  refine AQ.ret1 rfl rfl ?_
  exact ⟨rfl, hst⟩
set_option maxRecDepth 100000 in
set_option maxHeartbeats 1000000 in
theorem begin_spec {w0 w : World} {I : Imm} {L : Own} (hst : St w0 w I L) (h : Int) (hh : 0 ≤ h ∧ h ≤ 1) :
    Calls Try.prog 34 #[.int .i64 h] w fun e w' => e = .returned (.int .i64 (beginR h)) ∧ St w0 w' I L := by
  refine enter Try.func34 rfl (N := 6) rfl rfl ?_
  simp only [List.zipIdx_cons, List.zipIdx_nil, List.map_cons, List.map_nil, Nat.zero_add, Nat.reduceAdd]
  have hle := Imm.le.refl I
  refine CW.seq ?_
  -- region 0
  refine CW.region ?_
  refine RW.op1 rfl (runs_assign rfl) ?_
  refine RW.done ?_
  refine AQ.next ?_
  refine CW.seq ?_
  -- region 1
  refine CW.region ?_
  refine RW.op1 rfl (runs_move rfl) ?_
  refine RW.op1 rfl (runs_mul rfl rfl (by omega)) ?_
  refine RW.op1 rfl (runs_add rfl rfl (by omega)) ?_
  refine RW.op1 rfl (runs_assign rfl) ?_
  refine RW.done ?_
  refine AQ.next ?_
  refine CW.ret ?_
  refine AQ.ret1 rfl rfl ?_
  exact ⟨rfl, hst⟩
set_option maxRecDepth 100000 in
set_option maxHeartbeats 1000000 in
theorem left_spec {w0 w : World} {I : Imm} {L : Own} (hst : St w0 w I L) (a h : Int) (hh : 0 ≤ h ∧ h ≤ 1) (ha : 0 ≤ a ∧ a ≤ 1000) :
    Calls Try.prog 42 #[.int .i64 a, .int .i64 h] w fun e w' => e = .returned (.int .i64 (beginR h + 256 - a)) ∧ St w0 w' I L := by
  have hb : beginR h = 2 + h * 256 := rfl
  refine enter Try.func42 rfl (N := 10) rfl rfl ?_
  simp only [List.zipIdx_cons, List.zipIdx_nil, List.map_cons, List.map_nil, Nat.zero_add, Nat.reduceAdd]
  have hle := Imm.le.refl I
  refine CW.seq ?_
  -- region 0
  refine CW.region ?_
  refine RW.op1 rfl (runs_assign rfl) ?_
  refine RW.done ?_
  refine AQ.next ?_
  refine CW.seq ?_
  -- region 1
  refine CW.region ?_
  refine RW.op1 rfl (runs_move rfl) ?_
  refine RW.call rfl call34 rfl rfl (begin_spec hst h hh) ?_
  rintro e w ⟨rfl, hstn⟩
  clear hst
  have hst := hstn
  clear hstn
  refine ⟨_, rfl, ?_⟩
  refine RW.op1 rfl (runs_add rfl rfl (by omega)) ?_
  refine RW.op1 rfl (runs_move rfl) ?_
  refine RW.op1 rfl (runs_sub rfl rfl (by omega)) ?_
  refine RW.op1 rfl (runs_assign rfl) ?_
  refine RW.done ?_
  refine AQ.next ?_
  refine CW.ret ?_
  refine AQ.ret1 rfl rfl ?_
  exact ⟨rfl, hst⟩
theorem perm_mid {α : Type} (x : α) (A B : List α) : (A ++ x :: B).Perm (x :: (A ++ B)) := List.perm_middle
set_option maxRecDepth 100000 in
set_option maxHeartbeats 1000000 in
theorem store_spec {w0 w : World} {I : Imm} {L Ld : Own} {d : Value} {S : DS} (hd : DiskO d S Ld) (hst : St w0 w I (Ld ++ L)) (s : Slot) (hn : i64ok s.n) (hpn : S.pend.length ≤ 1000000) :
    Calls Try.prog 32 #[d, .agg (slotV s).toArray] w fun e w' => ∃ I' Ld', Imm.le I I' ∧ e = .returned (.int .i64 (storeR S s).2) ∧ St w0 w' I' (Ld' ++ L) ∧ DiskO d (storeR S s).1 Ld' := by
  unfold i64ok at hn
  refine enter Try.func32 rfl (N := 54) rfl rfl ?_
  simp only [List.zipIdx_cons, List.zipIdx_nil, List.map_cons, List.map_nil, Nat.zero_add, Nat.reduceAdd]
  have hle := Imm.le.refl I
  refine CW.seq ?_
  -- region 0
  refine CW.region ?_
  refine RW.opE rfl (runs_box rfl hst) ?_
  rintro _ w ⟨b1, rfl, hstn⟩
  clear hst
  have hst := hstn
  clear hstn
  refine RW.op1 rfl (runs_assign rfl) ?_
  refine RW.done ?_
  refine AQ.next ?_
  refine CW.seq ?_
  -- region 1
  refine CW.region ?_
  first
    | refine RW.op1 rfl (runs_fieldAddr0 rfl Try.underlying64 rfl ti3 (by decide)) ?_
    | refine RW.op1 rfl (runs_fieldAddr rfl Try.underlying64 rfl ti3 (by decide)) ?_
  first
    | refine RW.op1 rfl (runs_load1 sc3 rfl (hst.cell_own (k := 0) rfl rfl)) ?_
    | refine RW.op1 rfl (runs_load1 sc3 rfl (hst.cell_own (k := 1) rfl rfl)) ?_
    | refine RW.op1 rfl (runs_load1 sc3 rfl (hst.cell_own (k := 2) rfl rfl)) ?_
  refine RW.op1 rfl (runs_convB (by rw [Try.underlying3]; rfl) Try.underlying5 rfl) ?_
  first
    | refine RW.op1 rfl (runs_fieldAddr0 rfl Try.underlying64 rfl ti3 (by decide)) ?_
    | refine RW.op1 rfl (runs_fieldAddr rfl Try.underlying64 rfl ti3 (by decide)) ?_
  first
    | refine RW.op1 rfl (runs_load1 sc3 rfl (hst.cell_own (k := 0) rfl rfl)) ?_
    | refine RW.op1 rfl (runs_load1 sc3 rfl (hst.cell_own (k := 1) rfl rfl)) ?_
    | refine RW.op1 rfl (runs_load1 sc3 rfl (hst.cell_own (k := 2) rfl rfl)) ?_
  refine RW.op1 rfl (runs_shrE (n := 16) rfl rfl (by decide)) ?_
  refine RW.op1 rfl (runs_convB (by rw [Try.underlying3]; rfl) Try.underlying5 rfl) ?_
  first
    | refine RW.op1 rfl (runs_fieldAddr0 rfl Try.underlying64 rfl ti3 (by decide)) ?_
    | refine RW.op1 rfl (runs_fieldAddr rfl Try.underlying64 rfl ti3 (by decide)) ?_
  first
    | refine RW.op1 rfl (runs_load1 sc3 rfl (hst.cell_own (k := 0) rfl rfl)) ?_
    | refine RW.op1 rfl (runs_load1 sc3 rfl (hst.cell_own (k := 1) rfl rfl)) ?_
    | refine RW.op1 rfl (runs_load1 sc3 rfl (hst.cell_own (k := 2) rfl rfl)) ?_
  refine RW.op1 rfl (runs_shrE (n := 8) rfl rfl (by decide)) ?_
  refine RW.op1 rfl (runs_convB (by rw [Try.underlying3]; rfl) Try.underlying5 rfl) ?_
  first
    | refine RW.op1 rfl (runs_fieldAddr0 rfl Try.underlying64 rfl ti3 (by decide)) ?_
    | refine RW.op1 rfl (runs_fieldAddr rfl Try.underlying64 rfl ti3 (by decide)) ?_
  first
    | refine RW.op1 rfl (runs_load1 sc3 rfl (hst.cell_own (k := 0) rfl rfl)) ?_
    | refine RW.op1 rfl (runs_load1 sc3 rfl (hst.cell_own (k := 1) rfl rfl)) ?_
    | refine RW.op1 rfl (runs_load1 sc3 rfl (hst.cell_own (k := 2) rfl rfl)) ?_
  refine RW.op1 rfl (runs_convB (by rw [Try.underlying3]; rfl) Try.underlying5 rfl) ?_
  first
    | refine RW.op1 rfl (runs_fieldAddr0 rfl Try.underlying64 rfl ti3 (by decide)) ?_
    | refine RW.op1 rfl (runs_fieldAddr rfl Try.underlying64 rfl ti3 (by decide)) ?_
  first
    | refine RW.op1 rfl (runs_load1 sc3 rfl (hst.cell_own (k := 0) rfl rfl)) ?_
    | refine RW.op1 rfl (runs_load1 sc3 rfl (hst.cell_own (k := 1) rfl rfl)) ?_
    | refine RW.op1 rfl (runs_load1 sc3 rfl (hst.cell_own (k := 2) rfl rfl)) ?_
  refine RW.op1 rfl (runs_shrE (n := 8) rfl rfl (by decide)) ?_
  refine RW.op1 rfl (runs_convB (by rw [Try.underlying3]; rfl) Try.underlying5 rfl) ?_
  first
    | refine RW.op1 rfl (runs_fieldAddr0 rfl Try.underlying64 rfl ti3 (by decide)) ?_
    | refine RW.op1 rfl (runs_fieldAddr rfl Try.underlying64 rfl ti3 (by decide)) ?_
  first
    | refine RW.op1 rfl (runs_load1 sc3 rfl (hst.cell_own (k := 0) rfl rfl)) ?_
    | refine RW.op1 rfl (runs_load1 sc3 rfl (hst.cell_own (k := 1) rfl rfl)) ?_
    | refine RW.op1 rfl (runs_load1 sc3 rfl (hst.cell_own (k := 2) rfl rfl)) ?_
  refine RW.op1 rfl (runs_convB (by rw [Try.underlying3]; rfl) Try.underlying5 rfl) ?_
  refine RW.opE rfl (runs_litB (bs := [_, _, _, _, _, _]) rfl Try.underlying33 ti5 (by decide) rfl rfl rfl hst) ?_
  rintro u2 w ⟨I2, hI2, hstn, h2⟩
  clear hst
  have hst := hstn
  clear hstn
  replace hle := hle.trans hI2
  refine RW.op1 rfl (runs_assign rfl) ?_
  refine RW.done ?_
  refine AQ.next ?_
  refine CW.seq ?_
  -- region 2
  refine CW.region ?_
  first
    | refine RW.op1 rfl (runs_fieldAddr0 rfl Try.underlying64 rfl ti3 (by decide)) ?_
    | refine RW.op1 rfl (runs_fieldAddr rfl Try.underlying64 rfl ti3 (by decide)) ?_
  first
    | refine RW.op1 rfl (runs_load1 sc3 rfl (hst.cell_own (k := 0) rfl rfl)) ?_
    | refine RW.op1 rfl (runs_load1 sc3 rfl (hst.cell_own (k := 1) rfl rfl)) ?_
    | refine RW.op1 rfl (runs_load1 sc3 rfl (hst.cell_own (k := 2) rfl rfl)) ?_
  first
    | refine RW.op1 rfl (runs_fieldAddr0 rfl Try.underlying64 rfl ti3 (by decide)) ?_
    | refine RW.op1 rfl (runs_fieldAddr rfl Try.underlying64 rfl ti3 (by decide)) ?_
  first
    | refine RW.op1 rfl (runs_load1 sc3 rfl (hst.cell_own (k := 0) rfl rfl)) ?_
    | refine RW.op1 rfl (runs_load1 sc3 rfl (hst.cell_own (k := 1) rfl rfl)) ?_
    | refine RW.op1 rfl (runs_load1 sc3 rfl (hst.cell_own (k := 2) rfl rfl)) ?_
  refine RW.op1 rfl (runs_buildF (cells := [_, _]) bz38 rfl rfl rfl rfl rfl) ?_
  refine RW.op1 rfl (runs_move rfl) ?_
  refine RW.call rfl call14 rfl rfl (seal_spec hst s.e s.n 0 1 h2 (by show 6 ≤ _; decide)) ?_
  rintro e w ⟨I3, vS, hI3, rfl, hstn, hS⟩
  clear hst
  have hst := hstn
  clear hstn
  replace hS := (show RdB I3 vS (if sealM s.e s.n 0 1 (slotB s) then slotX s else []) from hS)
  have hsm := slot_seal s
  replace hsm : sealM s.e s.n 0 1 (slotB s) = mayM s.e s.n := hsm
  replace h2 := h2.mono hI3
  replace hle := hle.trans hI3
  refine ⟨_, rfl, ?_⟩
  refine RW.op1 rfl (runs_move rfl) ?_
  refine RW.op1 rfl (runs_extract rfl rfl) ?_
  refine RW.op1 rfl (runs_extract rfl rfl) ?_
  refine RW.op1 rfl (runs_assign rfl) ?_
  refine RW.op1 rfl (runs_assign rfl) ?_
  refine RW.done ?_
  refine AQ.next ?_
  refine CW.seq ?_
  refine CW.seq ?_
  -- region 3
  refine CW.region ?_
  refine RW.op1 rfl (runs_move rfl) ?_
  refine RW.op1 rfl (runs_neI rfl rfl) ?_
  refine RW.done ?_
  refine AQ.next ?_
  refine CW.cond rfl (fun hc42 => ?_) (fun hc42 => ?_)
  · have hcb42 := hc42
    try simp only [decide_eq_true_eq, decide_eq_false_iff_not] at hc42
    have hm : mayM s.e s.n = false := by
      cases hm : mayM s.e s.n
      · rfl
      · exact absurd (by show (if sealM s.e s.n 0 1 (slotB s) = true then (0 : Int) else 1) = 0; rw [hsm, hm]; rfl) hc42
    refine CW.seq ?_
    -- region 4
    refine CW.region ?_
    refine RW.op1 rfl (runs_assign rfl) ?_
    refine RW.done ?_
    refine AQ.next ?_
    refine CW.ret ?_
    refine AQ.past_ret ?_
    refine AQ.ret1 rfl rfl ?_
    have hr : storeR S s = (S, 5) := by unfold storeR; rw [if_pos hm]
    rw [hr]
    exact ⟨_, Ld, hle, rfl, hst.drop1, hd⟩
  · have hcb42 := hc42
    try simp only [decide_eq_true_eq, decide_eq_false_iff_not] at hc42
    have hm : mayM s.e s.n = true := by
      cases hm : mayM s.e s.n
      · exfalso
        have h : (if sealM s.e s.n 0 1 (slotB s) = true then (0 : Int) else 1) = 0 := Decidable.of_not_not hc42
        rw [hsm, hm] at h
        exact absurd h (by decide)
      · rfl
    rw [hsm, hm, if_pos rfl] at hS
    refine CW.skip ?_
    refine AQ.next ?_
    refine CW.seq ?_
    refine CW.seq ?_
    -- region 5
    refine CW.region ?_
    refine RW.op1 rfl (runs_move rfl) ?_
    first
      | refine RW.op1 rfl (runs_fieldAddr0 rfl Try.underlying64 rfl ti3 (by decide)) ?_
      | refine RW.op1 rfl (runs_fieldAddr rfl Try.underlying64 rfl ti3 (by decide)) ?_
    first
      | refine RW.op1 rfl (runs_load1 sc3 rfl (hst.cell_own (k := 0) rfl rfl)) ?_
      | refine RW.op1 rfl (runs_load1 sc3 rfl (hst.cell_own (k := 1) rfl rfl)) ?_
      | refine RW.op1 rfl (runs_load1 sc3 rfl (hst.cell_own (k := 2) rfl rfl)) ?_
    refine RW.op1 rfl (runs_rem rfl rfl (by omega)) ?_
    refine RW.op1 rfl (runs_move rfl) ?_
    refine RW.call rfl call12 rfl rfl (write_spec hd (hst.perm List.perm_middle.symm) (s.n.tmod 2) hS hpn) ?_
    rintro e w ⟨I4, Ld1, hI4, rfl, hstn, hd1⟩
    clear hst
    have hst := hstn
    clear hstn
    replace hst := hst.perm List.perm_middle
    replace h2 := h2.mono hI4
    replace hS := hS.mono hI4
    replace hle := hle.trans hI4
    refine ⟨_, rfl, ?_⟩
    refine RW.op1 rfl (runs_assign rfl) ?_
    refine RW.done ?_
    refine AQ.next ?_
    refine CW.seq ?_
    -- region 6
    refine CW.region ?_
    refine RW.op1 rfl (runs_move rfl) ?_
    refine RW.op1 rfl (runs_neI rfl rfl) ?_
    refine RW.done ?_
    refine AQ.next ?_
    refine CW.cond rfl (fun hc50 => ?_) (fun hc50 => ?_)
    · have hcb50 := hc50
      try simp only [decide_eq_true_eq, decide_eq_false_iff_not] at hc50
      refine CW.seq ?_
      -- region 7
      refine CW.region ?_
      refine RW.op1 rfl (runs_move rfl) ?_
      refine RW.op1 rfl (runs_assign rfl) ?_
      refine RW.done ?_
      refine AQ.next ?_
      refine CW.ret ?_
      refine AQ.past_ret ?_
      refine AQ.ret1 rfl rfl ?_
      have hr : storeR S s = writeR S (s.n.tmod 2) (slotX s) := by unfold storeR; rw [if_neg (by rw [hm]; decide), if_pos (by simpa using hc50)]
      rw [hr]
      exact ⟨_, Ld1, hle, rfl, hst.drop1, hd1⟩
    · have hcb50 := hc50
      try simp only [decide_eq_true_eq, decide_eq_false_iff_not] at hc50
      refine CW.skip ?_
      refine AQ.next ?_
      refine CW.seq ?_
      -- region 8
      refine CW.region ?_
      refine RW.op1 rfl (runs_move rfl) ?_
      refine RW.call rfl call31 rfl rfl (flush_spec hd1 (hst.perm List.perm_middle.symm)) ?_
      rintro e w ⟨Ld2, rfl, hstn, hd2⟩
      clear hst
      have hst := hstn
      clear hstn
      replace hst := hst.perm List.perm_middle
      refine ⟨_, rfl, ?_⟩
      refine RW.op1 rfl (runs_assign rfl) ?_
      refine RW.done ?_
      refine AQ.next ?_
      refine CW.ret ?_
      refine AQ.ret1 rfl rfl ?_
      have hr : storeR S s = flushR (writeR S (s.n.tmod 2) (slotX s)).1 := by unfold storeR; rw [if_neg (by rw [hm]; decide), if_neg (by simpa using hc50)]
      rw [hr]
      exact ⟨_, Ld2, hle, rfl, hst.drop1, hd2⟩
set_option maxRecDepth 100000 in
set_option maxHeartbeats 1000000 in
theorem epoch_spec {w0 w : World} {I : Imm} {L Ld : Own} {d : Value} {lb : Nat} {G : LG} (hst : St w0 w I ((lb, .cells (logV d G).toArray 69) :: (Ld ++ L))) :
    Calls Try.prog 16 #[.pointer (some ⟨lb, 0, none⟩)] w fun e w' => e = .returned (.int .i64 G.s.e) ∧ St w0 w' I ((lb, .cells (logV d G).toArray 69) :: (Ld ++ L)) := by
  refine enter Try.func16 rfl (N := 8) rfl rfl ?_
  simp only [List.zipIdx_cons, List.zipIdx_nil, List.map_cons, List.map_nil, Nat.zero_add, Nat.reduceAdd]
  have hle := Imm.le.refl I
  refine CW.seq ?_
  -- region 0
  refine CW.region ?_
  refine RW.op1 rfl (runs_assign rfl) ?_
  refine RW.done ?_
  refine AQ.next ?_
  refine CW.seq ?_
  -- region 1
  refine CW.region ?_
  refine RW.op1 rfl (runs_move rfl) ?_
  refine RW.op1 rfl (runs_nilCheck rfl) ?_
  first
    | refine RW.op1 rfl (runs_fieldAddr0 rfl Try.underlying69 rfl ti64 (by decide)) ?_
    | refine RW.op1 rfl (runs_fieldAddr rfl Try.underlying69 rfl ti64 (by decide)) ?_
  first
    | refine RW.op1 rfl (runs_fieldAddr0 rfl Try.underlying64 rfl ti3 (by decide)) ?_
    | refine RW.op1 rfl (runs_fieldAddr rfl Try.underlying64 rfl ti3 (by decide)) ?_
  first
    | refine RW.op1 rfl (runs_load1 sc3 rfl (hst.cell_own (k := 0) rfl rfl)) ?_
    | refine RW.op1 rfl (runs_load1 sc3 rfl (hst.cell_own (k := 1) rfl rfl)) ?_
    | refine RW.op1 rfl (runs_load1 sc3 rfl (hst.cell_own (k := 2) rfl rfl)) ?_
  refine RW.op1 rfl (runs_assign rfl) ?_
  refine RW.done ?_
  refine AQ.next ?_
  refine CW.ret ?_
  refine AQ.ret1 rfl rfl ?_
  exact ⟨rfl, hst⟩
set_option maxRecDepth 100000 in
set_option maxHeartbeats 1000000 in
theorem room_spec {w0 w : World} {I : Imm} {L Ld : Own} {d : Value} {lb : Nat} {G : LG} (hst : St w0 w I ((lb, .cells (logV d G).toArray 69) :: (Ld ++ L))) (hh : 0 ≤ G.s.h ∧ G.s.h ≤ 1) (ha : 0 ≤ G.at_ ∧ G.at_ ≤ 1000) :
    Calls Try.prog 23 #[.pointer (some ⟨lb, 0, none⟩)] w fun e w' => e = .returned (.int .i64 (beginR G.s.h + 256 - G.at_)) ∧ St w0 w' I ((lb, .cells (logV d G).toArray 69) :: (Ld ++ L)) := by
  refine enter Try.func23 rfl (N := 13) rfl rfl ?_
  simp only [List.zipIdx_cons, List.zipIdx_nil, List.map_cons, List.map_nil, Nat.zero_add, Nat.reduceAdd]
  have hle := Imm.le.refl I
  refine CW.seq ?_
  -- region 0
  refine CW.region ?_
  refine RW.op1 rfl (runs_assign rfl) ?_
  refine RW.done ?_
  refine AQ.next ?_
  refine CW.seq ?_
  -- region 1
  refine CW.drawSt hst (.q 0 (.q 1 (.q 2 (.q 3 (.q 4 (.q 5 (.q 6 (.q 7 (.q 8 (.l 9 (.q 10 .nil))))))))))) follows (by kernel_rfl) (fun w hst => ?_)
  refine DRW.q rfl rfl (fun w' hF => runs_move rfl) ?_
  refine DRW.q rfl rfl (fun w' hF => runs_nilCheck rfl) ?_
  first
    | refine DRW.q rfl rfl (fun w' hF => runs_fieldAddr0 rfl Try.underlying69 rfl ti3 (by decide)) ?_
    | refine DRW.q rfl rfl (fun w' hF => runs_fieldAddr rfl Try.underlying69 rfl ti3 (by decide)) ?_
  first
    | refine DRW.q rfl rfl (FSt.load1_own sc3 rfl (k := 0) rfl rfl) ?_
    | refine DRW.q rfl rfl (FSt.load1_own sc3 rfl (k := 1) rfl rfl) ?_
    | refine DRW.q rfl rfl (FSt.load1_own sc3 rfl (k := 2) rfl rfl) ?_
  refine DRW.q rfl rfl (fun w' hF => runs_move rfl) ?_
  refine DRW.q rfl rfl (fun w' hF => runs_nilCheck rfl) ?_
  first
    | refine DRW.q rfl rfl (fun w' hF => runs_fieldAddr0 rfl Try.underlying69 rfl ti64 (by decide)) ?_
    | refine DRW.q rfl rfl (fun w' hF => runs_fieldAddr rfl Try.underlying69 rfl ti64 (by decide)) ?_
  first
    | refine DRW.q rfl rfl (fun w' hF => runs_fieldAddr0 rfl Try.underlying64 rfl ti3 (by decide)) ?_
    | refine DRW.q rfl rfl (fun w' hF => runs_fieldAddr rfl Try.underlying64 rfl ti3 (by decide)) ?_
  first
    | refine DRW.q rfl rfl (FSt.load1_own sc3 rfl (k := 0) rfl rfl) ?_
    | refine DRW.q rfl rfl (FSt.load1_own sc3 rfl (k := 1) rfl rfl) ?_
    | refine DRW.q rfl rfl (FSt.load1_own sc3 rfl (k := 2) rfl rfl) ?_
  refine DRW.call rfl rfl call42 rfl rfl (left_spec hst G.at_ G.s.h hh ha) ?_
  rintro e w ⟨rfl, hstn⟩
  clear hst
  have hst := hstn
  clear hstn
  refine ⟨_, rfl, FSt.of hst (Imm.le.refl _) (by first | exact (List.sublist_cons_self _ _).trans (List.sublist_append_right _ _) | exact List.Sublist.refl _ | exact List.sublist_cons_self _ _ | exact List.sublist_append_right _ _ | exact (List.sublist_cons_self _ _).trans (List.sublist_cons_self _ _) | exact (List.sublist_append_right _ _).trans (List.sublist_cons_self _ _) | simp), ?_⟩
  refine DRW.q rfl rfl (fun w' hF => runs_assign rfl) ?_
  refine DRW.done ?_
  refine AQ.next ?_
  refine CW.ret ?_
  refine AQ.ret1 rfl rfl ?_
  exact ⟨rfl, hst⟩
theorem load_none {S : DS} {a : Int} (hm : mayR S a = 0) (h : ¬ ((openR (readR S a)).err = 0 ∧ (openR (readR S a)).p = 0 ∧ (openR (readR S a)).n = 1 ∧ (openR (readR S a)).b.length = 6 ∧ bat (openR (readR S a)).b 0 ≤ 1)) : loadR S a = (slot0, false, 0) := by
  unfold loadR slotAt isSlot
  rw [if_neg (by omega), if_neg]
  simp only [Bool.and_eq_true, decide_eq_true_eq]
  exact h
theorem load_some {S : DS} {a : Int} (hm : mayR S a = 0) (h : (openR (readR S a)).err = 0 ∧ (openR (readR S a)).p = 0 ∧ (openR (readR S a)).n = 1 ∧ (openR (readR S a)).b.length = 6 ∧ bat (openR (readR S a)).b 0 ≤ 1) : loadR S a = (slotOf (openR (readR S a)), true, 0) := by
  unfold loadR slotAt isSlot
  rw [if_neg (by omega), if_pos]
  simp only [Bool.and_eq_true, decide_eq_true_eq]
  exact h
set_option maxRecDepth 100000 in
set_option maxHeartbeats 1000000 in
theorem load_spec {w0 w : World} {I : Imm} {L Ld : Own} {d : Value} {S : DS} (hd : DiskO d S Ld) (hst : St w0 w I (Ld ++ L)) (at_ : Int) :
    Calls Try.prog 44 #[d, .int .i64 at_] w fun e w' => ∃ I', Imm.le I I' ∧ e = .returned (.tuple #[.agg (slotV (loadR S at_).1).toArray, .bool (loadR S at_).2.1, .int .i64 (loadR S at_).2.2]) ∧ St w0 w' I' (Ld ++ L) := by
  have hok : DOk S := by obtain ⟨_, _, _, _, _, _, _, _, _, hok⟩ := hd; exact hok
  refine enter Try.func44 rfl (N := 88) rfl rfl ?_
  simp only [List.zipIdx_cons, List.zipIdx_nil, List.map_cons, List.map_nil, Nat.zero_add, Nat.reduceAdd]
  have hle := Imm.le.refl I
  refine CW.seq ?_
  -- region 0
  refine CW.region ?_
  refine RW.opE rfl (runs_alloc ti64 hst) ?_
  rintro _ w ⟨b1, rfl, hstn⟩
  clear hst
  have hst := hstn
  clear hstn
  refine RW.op1 rfl (runs_assign rfl) ?_
  refine RW.op1 rfl (runs_assign rfl) ?_
  refine RW.done ?_
  refine AQ.next ?_
  refine CW.seq ?_
  -- region 1
  refine CW.region ?_
  refine RW.op1 rfl (runs_move rfl) ?_
  refine RW.op1 rfl (runs_move rfl) ?_
  refine RW.call rfl call40 rfl rfl (read_spec hd (hst.perm List.perm_middle.symm) at_) ?_
  rintro e w ⟨I2, vX, hI2, rfl, hstn, hX⟩
  clear hst
  have hst := hstn
  clear hstn
  replace hst := hst.perm List.perm_middle
  replace hle := hle.trans hI2
  refine ⟨_, rfl, ?_⟩
  refine RW.op1 rfl (runs_move rfl) ?_
  refine RW.op1 rfl (runs_extract rfl rfl) ?_
  refine RW.op1 rfl (runs_extract rfl rfl) ?_
  refine RW.op1 rfl (runs_assign rfl) ?_
  refine RW.op1 rfl (runs_assign rfl) ?_
  refine RW.done ?_
  refine AQ.next ?_
  refine CW.seq ?_
  refine CW.seq ?_
  -- region 2
  refine CW.region ?_
  refine RW.op1 rfl (runs_move rfl) ?_
  refine RW.op1 rfl (runs_neI rfl rfl) ?_
  refine RW.done ?_
  refine AQ.next ?_
  refine CW.cond rfl (fun hc20 => ?_) (fun hc20 => ?_)
  · have hcb20 := hc20
    try simp only [decide_eq_true_eq, decide_eq_false_iff_not] at hc20
    have hr : loadR S at_ = (slot0, false, mayR S at_) := by unfold loadR; rw [if_pos hc20]
    refine CW.seq ?_
    -- region 3
    refine CW.region ?_
    refine RW.op1 rfl (runs_buildF (cells := [_, _, _, _, _]) bz64 rfl rfl rfl rfl rfl) ?_
    refine RW.op1 rfl (runs_move rfl) ?_
    first
      | refine RW.opE0 (runs_storeW ti64 rfl rfl hst (k := 0) rfl rfl rfl (NoFz.zero _) rfl) ?_
      | refine RW.opE0 (runs_storeP ti64 rfl rfl hst (k := 0) rfl rfl rfl (NoFz.zero _) rfl) ?_
      | refine RW.opE0 (runs_storeW ti64 rfl rfl hst (k := 1) rfl rfl rfl (NoFz.zero _) rfl) ?_
      | refine RW.opE0 (runs_storeP ti64 rfl rfl hst (k := 1) rfl rfl rfl (NoFz.zero _) rfl) ?_
      | refine RW.opE0 (runs_storeW ti64 rfl rfl hst (k := 2) rfl rfl rfl (NoFz.zero _) rfl) ?_
      | refine RW.opE0 (runs_storeP ti64 rfl rfl hst (k := 2) rfl rfl rfl (NoFz.zero _) rfl) ?_
    rintro w hstn
    clear hst
    have hst := hstn
    clear hstn
    try simp only [List.set_cons_zero, List.set_cons_succ] at hst
    refine RW.op1 rfl (runs_assign rfl) ?_
    refine RW.op1 rfl (runs_assign rfl) ?_
    refine RW.done ?_
    refine AQ.next ?_
    refine CW.ret ?_
    refine AQ.past_ret ?_
    refine AQ.retL (rs := [.cell 4 64, .tmp 5, .tmp 6]) (vs := [_, _, _]) rfl ⟨⟨_, rfl, hst.loadN (vs := [_, _, _, _, _]) (k := 0) ag64 ti64 rfl rfl rfl⟩, rfl, rfl, trivial⟩ (by simp) ?_
    rw [hr]
    exact ⟨_, hle, rfl, hst.drop1⟩
  · have hcb20 := hc20
    try simp only [decide_eq_true_eq, decide_eq_false_iff_not] at hc20
    have hm0 : mayR S at_ = 0 := Decidable.of_not_not hc20
    rw [if_pos hm0] at hX
    have hlim := mayR_ok hm0
    have hXl := readR_len hok hlim.2.1 hlim.2.2
    refine CW.skip ?_
    refine AQ.next ?_
    refine CW.seq ?_
    -- region 4
    refine CW.region ?_
    refine RW.op1 rfl (runs_move rfl) ?_
    refine RW.call rfl call41 rfl rfl (open_spec hst hX (by omega)) ?_
    rintro e w ⟨I4, vO, hI4, rfl, hstn, hO⟩
    clear hst
    have hst := hstn
    clear hstn
    replace hX := hX.mono hI4
    replace hle := hle.trans hI4
    refine ⟨_, rfl, ?_⟩
    refine RW.op1 rfl (runs_move rfl) ?_
    refine RW.op1 rfl (runs_extract rfl rfl) ?_
    refine RW.op1 rfl (runs_extract rfl rfl) ?_
    refine RW.op1 rfl (runs_extract rfl rfl) ?_
    refine RW.op1 rfl (runs_extract rfl rfl) ?_
    refine RW.op1 rfl (runs_extract rfl rfl) ?_
    refine RW.opE rfl (runs_alloc ti38 hst) ?_
    rintro _ w ⟨b5, rfl, hstn⟩
    clear hst
    have hst := hstn
    clear hstn
    first
      | refine RW.opE0 (runs_storeW ti38 rfl rfl hst (k := 0) rfl rfl rfl (NoFz.zero _) rfl) ?_
      | refine RW.opE0 (runs_storeP ti38 rfl rfl hst (k := 0) rfl rfl rfl (NoFz.zero _) rfl) ?_
      | refine RW.opE0 (runs_storeW ti38 rfl rfl hst (k := 1) rfl rfl rfl (NoFz.zero _) rfl) ?_
      | refine RW.opE0 (runs_storeP ti38 rfl rfl hst (k := 1) rfl rfl rfl (NoFz.zero _) rfl) ?_
      | refine RW.opE0 (runs_storeW ti38 rfl rfl hst (k := 2) rfl rfl rfl (NoFz.zero _) rfl) ?_
      | refine RW.opE0 (runs_storeP ti38 rfl rfl hst (k := 2) rfl rfl rfl (NoFz.zero _) rfl) ?_
    rintro w hstn
    clear hst
    have hst := hstn
    clear hstn
    try simp only [List.set_cons_zero, List.set_cons_succ] at hst
    refine RW.op1 rfl (runs_assign rfl) ?_
    refine RW.op1 rfl (runs_assign rfl) ?_
    refine RW.op1 rfl (runs_assign rfl) ?_
    refine RW.op1 rfl (runs_assign rfl) ?_
    refine RW.done ?_
    refine AQ.next ?_
    refine CW.seq ?_
    refine CW.seq ?_
    -- region 5
    refine CW.region ?_
    refine RW.op1 rfl (runs_move rfl) ?_
    refine RW.op1 rfl (runs_neI rfl rfl) ?_
    refine RW.op1 rfl (runs_move rfl) ?_
    refine RW.split (t := 33) rfl (fun hb33 => ?_) (fun hb33 => ?_)
    · have hb33p := hb33
      try simp only [decide_eq_true_eq, decide_eq_false_iff_not] at hb33p
      refine RW.off_guard rfl rfl rfl rfl hb33 ?_
      refine RW.off_guard rfl rfl rfl rfl hb33 ?_
      refine RW.op1 rfl (runs_pick_true rfl hb33 rfl) ?_
      refine RW.op1 rfl (runs_move rfl) ?_
      refine RW.off_guard rfl rfl rfl rfl rfl ?_
      refine RW.off_guard rfl rfl rfl rfl rfl ?_
      refine RW.op1 rfl (runs_pick_true rfl rfl rfl) ?_
      refine RW.op1 rfl (runs_move rfl) ?_
      refine RW.off_guard rfl rfl rfl rfl rfl ?_
      refine RW.off_guard rfl rfl rfl rfl rfl ?_
      refine RW.off_guard rfl rfl rfl rfl rfl ?_
      refine RW.op1 rfl (runs_pick_true rfl rfl rfl) ?_
      refine RW.op1 rfl (runs_move rfl) ?_
      refine RW.off_guard rfl rfl rfl rfl rfl ?_
      refine RW.off_guard rfl rfl rfl rfl rfl ?_
      refine RW.off_guard rfl rfl rfl rfl rfl ?_
      refine RW.off_guard rfl rfl rfl rfl rfl ?_
      refine RW.op1 rfl (runs_pick_true rfl rfl rfl) ?_
      refine RW.done ?_
      refine AQ.next ?_
      refine CW.cond_true rfl ?_
      refine CW.seq ?_
      -- region 6
      refine CW.region ?_
      refine RW.op1 rfl (runs_buildF (cells := [_, _, _, _, _]) bz64 rfl rfl rfl rfl rfl) ?_
      first
        | refine RW.opE0 (runs_storeW ti64 rfl rfl hst (k := 0) rfl rfl rfl (NoFz.zero _) rfl) ?_
        | refine RW.opE0 (runs_storeP ti64 rfl rfl hst (k := 0) rfl rfl rfl (NoFz.zero _) rfl) ?_
        | refine RW.opE0 (runs_storeW ti64 rfl rfl hst (k := 1) rfl rfl rfl (NoFz.zero _) rfl) ?_
        | refine RW.opE0 (runs_storeP ti64 rfl rfl hst (k := 1) rfl rfl rfl (NoFz.zero _) rfl) ?_
        | refine RW.opE0 (runs_storeW ti64 rfl rfl hst (k := 2) rfl rfl rfl (NoFz.zero _) rfl) ?_
        | refine RW.opE0 (runs_storeP ti64 rfl rfl hst (k := 2) rfl rfl rfl (NoFz.zero _) rfl) ?_
      rintro w hstn
      clear hst
      have hst := hstn
      clear hstn
      try simp only [List.set_cons_zero, List.set_cons_succ] at hst
      refine RW.op1 rfl (runs_assign rfl) ?_
      refine RW.op1 rfl (runs_assign rfl) ?_
      refine RW.done ?_
      refine AQ.next ?_
      refine CW.ret ?_
      refine AQ.past_ret ?_
      refine AQ.retL (rs := [.cell 4 64, .tmp 5, .tmp 6]) (vs := [_, _, _]) rfl ⟨⟨_, rfl, hst.loadN (vs := [_, _, _, _, _]) (k := 1) ag64 ti64 rfl rfl rfl⟩, rfl, rfl, trivial⟩ (by simp) ?_
      rw [load_none hm0 (by omega)]
      exact ⟨_, hle, rfl, hst.drop1.drop1⟩
    · have hb33p := hb33
      try simp only [decide_eq_true_eq, decide_eq_false_iff_not] at hb33p
      refine RW.on_guard rfl rfl rfl rfl hb33 ?_
      refine RW.op1 rfl (runs_move rfl) ?_
      refine RW.on_guard rfl rfl rfl rfl hb33 ?_
      refine RW.op1 rfl (runs_neI rfl rfl) ?_
      refine RW.op1 rfl (runs_pick_false rfl hb33 rfl) ?_
      refine RW.op1 rfl (runs_move rfl) ?_
      refine RW.split (t := 37) rfl (fun hb37 => ?_) (fun hb37 => ?_)
      · have hb37p := hb37
        try simp only [decide_eq_true_eq, decide_eq_false_iff_not] at hb37p
        refine RW.off_guard rfl rfl rfl rfl hb37 ?_
        refine RW.off_guard rfl rfl rfl rfl hb37 ?_
        refine RW.op1 rfl (runs_pick_true rfl hb37 rfl) ?_
        refine RW.op1 rfl (runs_move rfl) ?_
        refine RW.off_guard rfl rfl rfl rfl rfl ?_
        refine RW.off_guard rfl rfl rfl rfl rfl ?_
        refine RW.off_guard rfl rfl rfl rfl rfl ?_
        refine RW.op1 rfl (runs_pick_true rfl rfl rfl) ?_
        refine RW.op1 rfl (runs_move rfl) ?_
        refine RW.off_guard rfl rfl rfl rfl rfl ?_
        refine RW.off_guard rfl rfl rfl rfl rfl ?_
        refine RW.off_guard rfl rfl rfl rfl rfl ?_
        refine RW.off_guard rfl rfl rfl rfl rfl ?_
        refine RW.op1 rfl (runs_pick_true rfl rfl rfl) ?_
        refine RW.done ?_
        refine AQ.next ?_
        refine CW.cond_true rfl ?_
        refine CW.seq ?_
        -- region 6
        refine CW.region ?_
        refine RW.op1 rfl (runs_buildF (cells := [_, _, _, _, _]) bz64 rfl rfl rfl rfl rfl) ?_
        first
          | refine RW.opE0 (runs_storeW ti64 rfl rfl hst (k := 0) rfl rfl rfl (NoFz.zero _) rfl) ?_
          | refine RW.opE0 (runs_storeP ti64 rfl rfl hst (k := 0) rfl rfl rfl (NoFz.zero _) rfl) ?_
          | refine RW.opE0 (runs_storeW ti64 rfl rfl hst (k := 1) rfl rfl rfl (NoFz.zero _) rfl) ?_
          | refine RW.opE0 (runs_storeP ti64 rfl rfl hst (k := 1) rfl rfl rfl (NoFz.zero _) rfl) ?_
          | refine RW.opE0 (runs_storeW ti64 rfl rfl hst (k := 2) rfl rfl rfl (NoFz.zero _) rfl) ?_
          | refine RW.opE0 (runs_storeP ti64 rfl rfl hst (k := 2) rfl rfl rfl (NoFz.zero _) rfl) ?_
        rintro w hstn
        clear hst
        have hst := hstn
        clear hstn
        try simp only [List.set_cons_zero, List.set_cons_succ] at hst
        refine RW.op1 rfl (runs_assign rfl) ?_
        refine RW.op1 rfl (runs_assign rfl) ?_
        refine RW.done ?_
        refine AQ.next ?_
        refine CW.ret ?_
        refine AQ.past_ret ?_
        refine AQ.retL (rs := [.cell 4 64, .tmp 5, .tmp 6]) (vs := [_, _, _]) rfl ⟨⟨_, rfl, hst.loadN (vs := [_, _, _, _, _]) (k := 1) ag64 ti64 rfl rfl rfl⟩, rfl, rfl, trivial⟩ (by simp) ?_
        rw [load_none hm0 (by omega)]
        exact ⟨_, hle, rfl, hst.drop1.drop1⟩
      · have hb37p := hb37
        try simp only [decide_eq_true_eq, decide_eq_false_iff_not] at hb37p
        refine RW.on_guard rfl rfl rfl rfl hb37 ?_
        refine RW.op1 rfl (runs_move rfl) ?_
        refine RW.on_guard rfl rfl rfl rfl hb37 ?_
        refine RW.op1 rfl (runs_neI rfl rfl) ?_
        refine RW.op1 rfl (runs_pick_false rfl hb37 rfl) ?_
        refine RW.op1 rfl (runs_move rfl) ?_
        refine RW.split (t := 41) rfl (fun hb41 => ?_) (fun hb41 => ?_)
        · have hb41p := hb41
          try simp only [decide_eq_true_eq, decide_eq_false_iff_not] at hb41p
          refine RW.off_guard rfl rfl rfl rfl hb41 ?_
          refine RW.off_guard rfl rfl rfl rfl hb41 ?_
          refine RW.off_guard rfl rfl rfl rfl hb41 ?_
          refine RW.op1 rfl (runs_pick_true rfl hb41 rfl) ?_
          refine RW.op1 rfl (runs_move rfl) ?_
          refine RW.off_guard rfl rfl rfl rfl rfl ?_
          refine RW.off_guard rfl rfl rfl rfl rfl ?_
          refine RW.off_guard rfl rfl rfl rfl rfl ?_
          refine RW.off_guard rfl rfl rfl rfl rfl ?_
          refine RW.op1 rfl (runs_pick_true rfl rfl rfl) ?_
          refine RW.done ?_
          refine AQ.next ?_
          refine CW.cond_true rfl ?_
          refine CW.seq ?_
          -- region 6
          refine CW.region ?_
          refine RW.op1 rfl (runs_buildF (cells := [_, _, _, _, _]) bz64 rfl rfl rfl rfl rfl) ?_
          first
            | refine RW.opE0 (runs_storeW ti64 rfl rfl hst (k := 0) rfl rfl rfl (NoFz.zero _) rfl) ?_
            | refine RW.opE0 (runs_storeP ti64 rfl rfl hst (k := 0) rfl rfl rfl (NoFz.zero _) rfl) ?_
            | refine RW.opE0 (runs_storeW ti64 rfl rfl hst (k := 1) rfl rfl rfl (NoFz.zero _) rfl) ?_
            | refine RW.opE0 (runs_storeP ti64 rfl rfl hst (k := 1) rfl rfl rfl (NoFz.zero _) rfl) ?_
            | refine RW.opE0 (runs_storeW ti64 rfl rfl hst (k := 2) rfl rfl rfl (NoFz.zero _) rfl) ?_
            | refine RW.opE0 (runs_storeP ti64 rfl rfl hst (k := 2) rfl rfl rfl (NoFz.zero _) rfl) ?_
          rintro w hstn
          clear hst
          have hst := hstn
          clear hstn
          try simp only [List.set_cons_zero, List.set_cons_succ] at hst
          refine RW.op1 rfl (runs_assign rfl) ?_
          refine RW.op1 rfl (runs_assign rfl) ?_
          refine RW.done ?_
          refine AQ.next ?_
          refine CW.ret ?_
          refine AQ.past_ret ?_
          refine AQ.retL (rs := [.cell 4 64, .tmp 5, .tmp 6]) (vs := [_, _, _]) rfl ⟨⟨_, rfl, hst.loadN (vs := [_, _, _, _, _]) (k := 1) ag64 ti64 rfl rfl rfl⟩, rfl, rfl, trivial⟩ (by simp) ?_
          rw [load_none hm0 (by omega)]
          exact ⟨_, hle, rfl, hst.drop1.drop1⟩
        · have hb41p := hb41
          try simp only [decide_eq_true_eq, decide_eq_false_iff_not] at hb41p
          refine RW.on_guard rfl rfl rfl rfl hb41 ?_
          refine RW.op1 rfl (runs_move rfl) ?_
          refine RW.on_guard rfl rfl rfl rfl hb41 ?_
          refine RW.op1 rfl (RdL.len Try.underlying33 rfl hO) ?_
          refine RW.on_guard rfl rfl rfl rfl hb41 ?_
          refine RW.op1 rfl (runs_neI rfl rfl) ?_
          refine RW.op1 rfl (runs_pick_false rfl hb41 rfl) ?_
          refine RW.op1 rfl (runs_move rfl) ?_
          refine RW.split (t := 46) rfl (fun hb46 => ?_) (fun hb46 => ?_)
          · have hb46p := hb46
            try simp only [decide_eq_true_eq, decide_eq_false_iff_not] at hb46p
            refine RW.off_guard rfl rfl rfl rfl hb46 ?_
            refine RW.off_guard rfl rfl rfl rfl hb46 ?_
            refine RW.off_guard rfl rfl rfl rfl hb46 ?_
            refine RW.off_guard rfl rfl rfl rfl hb46 ?_
            refine RW.op1 rfl (runs_pick_true rfl hb46 rfl) ?_
            refine RW.done ?_
            refine AQ.next ?_
            refine CW.cond_true rfl ?_
            refine CW.seq ?_
            -- region 6
            refine CW.region ?_
            refine RW.op1 rfl (runs_buildF (cells := [_, _, _, _, _]) bz64 rfl rfl rfl rfl rfl) ?_
            first
              | refine RW.opE0 (runs_storeW ti64 rfl rfl hst (k := 0) rfl rfl rfl (NoFz.zero _) rfl) ?_
              | refine RW.opE0 (runs_storeP ti64 rfl rfl hst (k := 0) rfl rfl rfl (NoFz.zero _) rfl) ?_
              | refine RW.opE0 (runs_storeW ti64 rfl rfl hst (k := 1) rfl rfl rfl (NoFz.zero _) rfl) ?_
              | refine RW.opE0 (runs_storeP ti64 rfl rfl hst (k := 1) rfl rfl rfl (NoFz.zero _) rfl) ?_
              | refine RW.opE0 (runs_storeW ti64 rfl rfl hst (k := 2) rfl rfl rfl (NoFz.zero _) rfl) ?_
              | refine RW.opE0 (runs_storeP ti64 rfl rfl hst (k := 2) rfl rfl rfl (NoFz.zero _) rfl) ?_
            rintro w hstn
            clear hst
            have hst := hstn
            clear hstn
            try simp only [List.set_cons_zero, List.set_cons_succ] at hst
            refine RW.op1 rfl (runs_assign rfl) ?_
            refine RW.op1 rfl (runs_assign rfl) ?_
            refine RW.done ?_
            refine AQ.next ?_
            refine CW.ret ?_
            refine AQ.past_ret ?_
            refine AQ.retL (rs := [.cell 4 64, .tmp 5, .tmp 6]) (vs := [_, _, _]) rfl ⟨⟨_, rfl, hst.loadN (vs := [_, _, _, _, _]) (k := 1) ag64 ti64 rfl rfl rfl⟩, rfl, rfl, trivial⟩ (by simp) ?_
            rw [load_none hm0 (by omega)]
            exact ⟨_, hle, rfl, hst.drop1.drop1⟩
          · have hb46p := hb46
            try simp only [decide_eq_true_eq, decide_eq_false_iff_not] at hb46p
            refine RW.on_guard rfl rfl rfl rfl hb46 ?_
            refine RW.op1 rfl (runs_move rfl) ?_
            refine RW.on_guard rfl rfl rfl rfl hb46 ?_
            first
              | refine RW.op1 rfl (RdL.indexAddr Try.underlying33 ti5 (by decide) rfl rfl (by assumption) (by omega)) ?_
              | refine RW.op1 rfl (runs_indexAddr0 Try.underlying33 ti5 rfl rfl (by omega)) ?_
            refine RW.on_guard rfl rfl rfl rfl hb46 ?_
            first
              | refine RW.op1 rfl (runs_load1 sc5 rfl (hst.cell_imm (RdB.at (by assumption) (by omega) (by omega)))) ?_
              | refine RW.op1 rfl (runs_load1 sc5 rfl (hst.cell_own (k := 0) rfl rfl)) ?_
              | refine RW.op1 rfl (runs_load1 sc5 rfl (hst.cell_own (k := 1) rfl rfl)) ?_
              | refine RW.op1 rfl (runs_load1 sc5 rfl (hst.cell_own (k := 2) rfl rfl)) ?_
            refine RW.on_guard rfl rfl rfl rfl hb46 ?_
            refine RW.op1 rfl (runs_gtr rfl rfl) ?_
            refine RW.op1 rfl (runs_pick_false rfl hb46 rfl) ?_
            refine RW.done ?_
            refine AQ.next ?_
            refine CW.cond rfl (fun hc51 => ?_) (fun hc51 => ?_)
            · have hcb51 := hc51
              try simp only [decide_eq_true_eq, decide_eq_false_iff_not] at hc51
              refine CW.seq ?_
              -- region 6
              refine CW.region ?_
              refine RW.op1 rfl (runs_buildF (cells := [_, _, _, _, _]) bz64 rfl rfl rfl rfl rfl) ?_
              first
                | refine RW.opE0 (runs_storeW ti64 rfl rfl hst (k := 0) rfl rfl rfl (NoFz.zero _) rfl) ?_
                | refine RW.opE0 (runs_storeP ti64 rfl rfl hst (k := 0) rfl rfl rfl (NoFz.zero _) rfl) ?_
                | refine RW.opE0 (runs_storeW ti64 rfl rfl hst (k := 1) rfl rfl rfl (NoFz.zero _) rfl) ?_
                | refine RW.opE0 (runs_storeP ti64 rfl rfl hst (k := 1) rfl rfl rfl (NoFz.zero _) rfl) ?_
                | refine RW.opE0 (runs_storeW ti64 rfl rfl hst (k := 2) rfl rfl rfl (NoFz.zero _) rfl) ?_
                | refine RW.opE0 (runs_storeP ti64 rfl rfl hst (k := 2) rfl rfl rfl (NoFz.zero _) rfl) ?_
              rintro w hstn
              clear hst
              have hst := hstn
              clear hstn
              try simp only [List.set_cons_zero, List.set_cons_succ] at hst
              refine RW.op1 rfl (runs_assign rfl) ?_
              refine RW.op1 rfl (runs_assign rfl) ?_
              refine RW.done ?_
              refine AQ.next ?_
              refine CW.ret ?_
              refine AQ.past_ret ?_
              refine AQ.retL (rs := [.cell 4 64, .tmp 5, .tmp 6]) (vs := [_, _, _]) rfl ⟨⟨_, rfl, hst.loadN (vs := [_, _, _, _, _]) (k := 1) ag64 ti64 rfl rfl rfl⟩, rfl, rfl, trivial⟩ (by simp) ?_
              rw [load_none hm0 (by omega)]
              exact ⟨_, hle, rfl, hst.drop1.drop1⟩
            · have hcb51 := hc51
              try simp only [decide_eq_true_eq, decide_eq_false_iff_not] at hc51
              refine CW.skip ?_
              refine AQ.next ?_
              refine CW.seq ?_
              -- region 7
              refine CW.draw (FSt w0 I4 ((b5, .cells #[.int .i64 (openR (readR S at_)).e, .int .i64 (openR (readR S at_)).q] 38) :: (Ld ++ L))) (.q 0 (.q 1 (.q 2 (.q 3 (.q 4 (.q 5 (.q 6 (.q 7 (.q 8 (.q 9 (.q 10 (.q 11 (.q 12 (.q 13 (.q 14 (.q 15 (.q 16 (.q 17 (.q 18 (.q 19 (.q 20 (.q 21 (.q 22 (.q 23 (.q 24 (.q 25 (.q 26 (.q 27 (.q 28 (.q 29 (.q 30 (.q 31 (.q 32 (.q 33 (.q 34 (.l 35 (.q 36 (.q 37 .nil)))))))))))))))))))))))))))))))))))))) follows (by kernel_rfl) ⟨_, Imm.le.refl _, hst.draw.sub ((List.sublist_cons_self _ _).cons_cons _)⟩ ?_
              replace hst := hst.draw
              first
                | refine DRW.q rfl rfl (fun w' hF => runs_fieldAddr0 rfl Try.underlying38 rfl ti3 (by decide)) ?_
                | refine DRW.q rfl rfl (fun w' hF => runs_fieldAddr rfl Try.underlying38 rfl ti3 (by decide)) ?_
              first
                | refine DRW.q rfl rfl (FSt.load1_own sc3 rfl (k := 0) rfl rfl) ?_
                | refine DRW.q rfl rfl (FSt.load1_own sc3 rfl (k := 1) rfl rfl) ?_
                | refine DRW.q rfl rfl (FSt.load1_own sc3 rfl (k := 2) rfl rfl) ?_
              first
                | refine DRW.q rfl rfl (fun w' hF => runs_fieldAddr0 rfl Try.underlying38 rfl ti3 (by decide)) ?_
                | refine DRW.q rfl rfl (fun w' hF => runs_fieldAddr rfl Try.underlying38 rfl ti3 (by decide)) ?_
              first
                | refine DRW.q rfl rfl (FSt.load1_own sc3 rfl (k := 0) rfl rfl) ?_
                | refine DRW.q rfl rfl (FSt.load1_own sc3 rfl (k := 1) rfl rfl) ?_
                | refine DRW.q rfl rfl (FSt.load1_own sc3 rfl (k := 2) rfl rfl) ?_
              refine DRW.q rfl rfl (fun w' hF => runs_move rfl) ?_
              first
                | refine DRW.q rfl rfl (fun w' hF => RdL.indexAddr Try.underlying33 ti5 (by decide) rfl rfl (by assumption) (by omega)) ?_
                | refine DRW.q rfl rfl (fun w' hF => runs_indexAddr0 Try.underlying33 ti5 rfl rfl (by omega)) ?_
              first
                | refine DRW.q rfl rfl (FSt.load1 sc5 rfl (RdB.at (by assumption) (by omega) (by omega))) ?_
                | refine DRW.q rfl rfl (FSt.load1_own sc5 rfl (k := 0) rfl rfl) ?_
                | refine DRW.q rfl rfl (FSt.load1_own sc5 rfl (k := 1) rfl rfl) ?_
                | refine DRW.q rfl rfl (FSt.load1_own sc5 rfl (k := 2) rfl rfl) ?_
              first
                | refine DRW.q rfl rfl (fun w' hF => runs_conv64 (by rw [Try.underlying5]; rfl) Try.underlying3 rfl (bat_ok _ _)) ?_
                | refine DRW.q rfl rfl (fun w' hF => runs_conv64 (by rw [Try.underlying5]; rfl) Try.underlying3 rfl (byte_ok _)) ?_
                | refine DRW.q rfl rfl (fun w' hF => runs_conv64 (by rw [Try.underlying5]; rfl) Try.underlying3 rfl (by omega)) ?_
              refine DRW.q rfl rfl (fun w' hF => runs_move rfl) ?_
              first
                | refine DRW.q rfl rfl (fun w' hF => RdL.indexAddr Try.underlying33 ti5 (by decide) rfl rfl (by assumption) (by omega)) ?_
                | refine DRW.q rfl rfl (fun w' hF => runs_indexAddr0 Try.underlying33 ti5 rfl rfl (by omega)) ?_
              first
                | refine DRW.q rfl rfl (FSt.load1 sc5 rfl (RdB.at (by assumption) (by omega) (by omega))) ?_
                | refine DRW.q rfl rfl (FSt.load1_own sc5 rfl (k := 0) rfl rfl) ?_
                | refine DRW.q rfl rfl (FSt.load1_own sc5 rfl (k := 1) rfl rfl) ?_
                | refine DRW.q rfl rfl (FSt.load1_own sc5 rfl (k := 2) rfl rfl) ?_
              first
                | refine DRW.q rfl rfl (fun w' hF => runs_conv64 (by rw [Try.underlying5]; rfl) Try.underlying3 rfl (bat_ok _ _)) ?_
                | refine DRW.q rfl rfl (fun w' hF => runs_conv64 (by rw [Try.underlying5]; rfl) Try.underlying3 rfl (byte_ok _)) ?_
                | refine DRW.q rfl rfl (fun w' hF => runs_conv64 (by rw [Try.underlying5]; rfl) Try.underlying3 rfl (by omega)) ?_
              refine DRW.q rfl rfl (fun w' hF => runs_shlBat (n := 16) rfl rfl (by decide)) ?_
              refine DRW.q rfl rfl (fun w' hF => runs_move rfl) ?_
              first
                | refine DRW.q rfl rfl (fun w' hF => RdL.indexAddr Try.underlying33 ti5 (by decide) rfl rfl (by assumption) (by omega)) ?_
                | refine DRW.q rfl rfl (fun w' hF => runs_indexAddr0 Try.underlying33 ti5 rfl rfl (by omega)) ?_
              first
                | refine DRW.q rfl rfl (FSt.load1 sc5 rfl (RdB.at (by assumption) (by omega) (by omega))) ?_
                | refine DRW.q rfl rfl (FSt.load1_own sc5 rfl (k := 0) rfl rfl) ?_
                | refine DRW.q rfl rfl (FSt.load1_own sc5 rfl (k := 1) rfl rfl) ?_
                | refine DRW.q rfl rfl (FSt.load1_own sc5 rfl (k := 2) rfl rfl) ?_
              first
                | refine DRW.q rfl rfl (fun w' hF => runs_conv64 (by rw [Try.underlying5]; rfl) Try.underlying3 rfl (bat_ok _ _)) ?_
                | refine DRW.q rfl rfl (fun w' hF => runs_conv64 (by rw [Try.underlying5]; rfl) Try.underlying3 rfl (byte_ok _)) ?_
                | refine DRW.q rfl rfl (fun w' hF => runs_conv64 (by rw [Try.underlying5]; rfl) Try.underlying3 rfl (by omega)) ?_
              refine DRW.q rfl rfl (fun w' hF => runs_shlBat (n := 8) rfl rfl (by decide)) ?_
              refine DRW.q rfl rfl (fun w' hF => runs_or3a rfl rfl) ?_
              refine DRW.q rfl rfl (fun w' hF => runs_move rfl) ?_
              first
                | refine DRW.q rfl rfl (fun w' hF => RdL.indexAddr Try.underlying33 ti5 (by decide) rfl rfl (by assumption) (by omega)) ?_
                | refine DRW.q rfl rfl (fun w' hF => runs_indexAddr0 Try.underlying33 ti5 rfl rfl (by omega)) ?_
              first
                | refine DRW.q rfl rfl (FSt.load1 sc5 rfl (RdB.at (by assumption) (by omega) (by omega))) ?_
                | refine DRW.q rfl rfl (FSt.load1_own sc5 rfl (k := 0) rfl rfl) ?_
                | refine DRW.q rfl rfl (FSt.load1_own sc5 rfl (k := 1) rfl rfl) ?_
                | refine DRW.q rfl rfl (FSt.load1_own sc5 rfl (k := 2) rfl rfl) ?_
              first
                | refine DRW.q rfl rfl (fun w' hF => runs_conv64 (by rw [Try.underlying5]; rfl) Try.underlying3 rfl (bat_ok _ _)) ?_
                | refine DRW.q rfl rfl (fun w' hF => runs_conv64 (by rw [Try.underlying5]; rfl) Try.underlying3 rfl (byte_ok _)) ?_
                | refine DRW.q rfl rfl (fun w' hF => runs_conv64 (by rw [Try.underlying5]; rfl) Try.underlying3 rfl (by omega)) ?_
              refine DRW.q rfl rfl (fun w' hF => runs_or3b rfl rfl) ?_
              refine DRW.q rfl rfl (fun w' hF => runs_move rfl) ?_
              first
                | refine DRW.q rfl rfl (fun w' hF => RdL.indexAddr Try.underlying33 ti5 (by decide) rfl rfl (by assumption) (by omega)) ?_
                | refine DRW.q rfl rfl (fun w' hF => runs_indexAddr0 Try.underlying33 ti5 rfl rfl (by omega)) ?_
              first
                | refine DRW.q rfl rfl (FSt.load1 sc5 rfl (RdB.at (by assumption) (by omega) (by omega))) ?_
                | refine DRW.q rfl rfl (FSt.load1_own sc5 rfl (k := 0) rfl rfl) ?_
                | refine DRW.q rfl rfl (FSt.load1_own sc5 rfl (k := 1) rfl rfl) ?_
                | refine DRW.q rfl rfl (FSt.load1_own sc5 rfl (k := 2) rfl rfl) ?_
              first
                | refine DRW.q rfl rfl (fun w' hF => runs_conv64 (by rw [Try.underlying5]; rfl) Try.underlying3 rfl (bat_ok _ _)) ?_
                | refine DRW.q rfl rfl (fun w' hF => runs_conv64 (by rw [Try.underlying5]; rfl) Try.underlying3 rfl (byte_ok _)) ?_
                | refine DRW.q rfl rfl (fun w' hF => runs_conv64 (by rw [Try.underlying5]; rfl) Try.underlying3 rfl (by omega)) ?_
              refine DRW.q rfl rfl (fun w' hF => runs_shlBat (n := 8) rfl rfl (by decide)) ?_
              refine DRW.q rfl rfl (fun w' hF => runs_move rfl) ?_
              first
                | refine DRW.q rfl rfl (fun w' hF => RdL.indexAddr Try.underlying33 ti5 (by decide) rfl rfl (by assumption) (by omega)) ?_
                | refine DRW.q rfl rfl (fun w' hF => runs_indexAddr0 Try.underlying33 ti5 rfl rfl (by omega)) ?_
              first
                | refine DRW.q rfl rfl (FSt.load1 sc5 rfl (RdB.at (by assumption) (by omega) (by omega))) ?_
                | refine DRW.q rfl rfl (FSt.load1_own sc5 rfl (k := 0) rfl rfl) ?_
                | refine DRW.q rfl rfl (FSt.load1_own sc5 rfl (k := 1) rfl rfl) ?_
                | refine DRW.q rfl rfl (FSt.load1_own sc5 rfl (k := 2) rfl rfl) ?_
              first
                | refine DRW.q rfl rfl (fun w' hF => runs_conv64 (by rw [Try.underlying5]; rfl) Try.underlying3 rfl (bat_ok _ _)) ?_
                | refine DRW.q rfl rfl (fun w' hF => runs_conv64 (by rw [Try.underlying5]; rfl) Try.underlying3 rfl (byte_ok _)) ?_
                | refine DRW.q rfl rfl (fun w' hF => runs_conv64 (by rw [Try.underlying5]; rfl) Try.underlying3 rfl (by omega)) ?_
              refine DRW.q rfl rfl (fun w' hF => runs_or2 rfl rfl) ?_
              refine DRW.q rfl rfl (fun w' hF => runs_buildF (cells := [_, _, _, _, _]) bz64 rfl rfl rfl rfl rfl) ?_
              first
                | refine DRW.opE0 rfl (runs_storeW ti64 rfl rfl hst (k := 0) rfl rfl rfl (NoFz.zero _) rfl) ?_
                | refine DRW.opE0 rfl (runs_storeP ti64 rfl rfl hst (k := 0) rfl rfl rfl (NoFz.zero _) rfl) ?_
                | refine DRW.opE0 rfl (runs_storeW ti64 rfl rfl hst (k := 1) rfl rfl rfl (NoFz.zero _) rfl) ?_
                | refine DRW.opE0 rfl (runs_storeP ti64 rfl rfl hst (k := 1) rfl rfl rfl (NoFz.zero _) rfl) ?_
                | refine DRW.opE0 rfl (runs_storeW ti64 rfl rfl hst (k := 2) rfl rfl rfl (NoFz.zero _) rfl) ?_
                | refine DRW.opE0 rfl (runs_storeP ti64 rfl rfl hst (k := 2) rfl rfl rfl (NoFz.zero _) rfl) ?_
              rintro w hstn
              clear hst
              have hst := hstn
              clear hstn
              try simp only [List.set_cons_zero, List.set_cons_succ] at hst
              refine ⟨FSt.of hst (Imm.le.refl _) ((List.sublist_cons_self _ _).cons_cons _), ?_⟩
              refine DRW.q rfl rfl (fun w' hF => runs_assign rfl) ?_
              refine DRW.q rfl rfl (fun w' hF => runs_assign rfl) ?_
              refine DRW.done ?_
              refine AQ.next ?_
              refine CW.ret ?_
              refine AQ.retL (rs := [.cell 4 64, .tmp 5, .tmp 6]) (vs := [_, _, _]) rfl ⟨⟨_, rfl, hst.loadN (vs := [_, _, _, _, _]) (k := 1) ag64 ti64 rfl rfl rfl⟩, rfl, rfl, trivial⟩ (by simp) ?_
              rw [load_some hm0 (by omega)]
              exact ⟨_, hle, rfl, hst.drop1.drop1⟩
def bestTo (S : DS) : Nat → Option Slot
  | 0 => none
  | k + 1 => better (bestTo S k) (slotAt (readR S (k : Int)))
def bestS (o : Option Slot) : Slot := o.getD slot0
theorem newest_bad {S : DS} {k : Nat} (hk : k < 2) (h0 : ∀ j, j < k → mayR S (j : Int) = 0) (h : mayR S (k : Int) ≠ 0) : newestR S = (slot0, mayR S (k : Int)) := by
  unfold newestR
  unfold mayR at h h0 ⊢
  by_cases hd : S.down = true
  · rw [if_pos hd, if_pos hd]
  · rw [if_neg hd] at h ⊢
    rw [if_neg hd]
    by_cases hl : S.secs.length < 2
    · rw [if_pos hl, if_pos (Decidable.byContradiction fun hc => h (if_neg hc))]
    · exact absurd (if_neg (by omega)) h
theorem newest_end {S : DS} (h0 : ∀ j, j < 2 → mayR S ((j : Nat) : Int) = 0) : newestR S = match bestTo S 2 with
  | some s => (s, 0)
  | none => (slot0, 3) := by
  have h1 := mayR_ok (h0 1 (by decide))
  unfold newestR
  rw [if_neg (by rw [h1.1]; decide), if_neg (by omega)]
  have : bestTo S 2 = better (slotAt (readR S 0)) (slotAt (readR S 1)) := by
    show better (better none (slotAt (readR S 0))) (slotAt (readR S 1)) = _
    rfl
  rw [this]
  cases better (slotAt (readR S 0)) (slotAt (readR S 1)) <;> rfl
theorem load_er {S : DS} {a : Int} : (loadR S a).2.2 = mayR S a := by
  unfold loadR
  split
  · rfl
  · cases slotAt (readR S a) <;> (show 0 = mayR S a; omega)
theorem load_ok {S : DS} {a : Int} (hm : mayR S a = 0) : loadR S a = (bestS (slotAt (readR S a)), (slotAt (readR S a)).isSome, 0) := by
  unfold loadR
  rw [if_neg (by omega)]
  cases slotAt (readR S a) <;> rfl
theorem better_take {x y : Option Slot} (h : y.isSome = true) (h2 : x.isSome = false ∨ (bestS x).n < (bestS y).n) : bestS (better x y) = bestS y ∧ (better x y).isSome = true := by
  cases x with
  | none => exact ⟨rfl, h⟩
  | some a => cases y with
    | none => cases h
    | some b =>
      have : a.n < b.n := by
        rcases h2 with h2 | h2
        · cases h2
        · exact h2
      show bestS (if b.n > a.n then some b else some a) = b ∧ _
      rw [show better (some a) (some b) = some b from if_pos this]
      exact ⟨if_pos this ▸ rfl, rfl⟩
theorem better_keep {x y : Option Slot} (h : y.isSome = false ∨ x.isSome = true ∧ ¬ (bestS x).n < (bestS y).n) : better x y = x := by
  cases x with
  | none => cases y with
    | none => rfl
    | some b => rcases h with h | h <;> cases h; rename_i h1 h2; cases h1
  | some a => cases y with
    | none => rfl
    | some b =>
      rcases h with h | h
      · cases h
      · exact if_neg h.2
set_option maxRecDepth 100000 in
set_option maxHeartbeats 1000000 in
theorem newest_spec {w0 w : World} {I : Imm} {L Ld : Own} {d : Value} {S : DS} (hd : DiskO d S Ld) (hst : St w0 w I (Ld ++ L)) :
    Calls Try.prog 33 #[d] w fun e w' => ∃ I', Imm.le I I' ∧ e = .returned (.tuple #[.agg (slotV (newestR S).1).toArray, .int .i64 (newestR S).2]) ∧ St w0 w' I' (Ld ++ L) := by
  refine enter Try.func33 rfl (N := 42) rfl rfl ?_
  simp only [List.zipIdx_cons, List.zipIdx_nil, List.map_cons, List.map_nil, Nat.zero_add, Nat.reduceAdd]
  have hle := Imm.le.refl I
  refine CW.seq ?_
  -- region 0
  refine CW.region ?_
  refine RW.opE rfl (runs_alloc ti64 hst) ?_
  rintro _ w ⟨b1, rfl, hstn⟩
  clear hst
  have hst := hstn
  clear hstn
  refine RW.op1 rfl (runs_assign rfl) ?_
  refine RW.done ?_
  refine AQ.next ?_
  refine CW.seq ?_
  -- region 1
  refine CW.region ?_
  refine RW.opE rfl (runs_alloc ti64 hst) ?_
  rintro _ w ⟨b2, rfl, hstn⟩
  clear hst
  have hst := hstn
  clear hstn
  refine RW.done ?_
  refine AQ.next ?_
  refine CW.seq ?_
  -- region 2
  refine CW.region ?_
  refine RW.op1 rfl (runs_assign rfl) ?_
  refine RW.done ?_
  refine AQ.next ?_
  refine CW.seq ?_
  refine CW.seq ?_
  -- region 3
  refine CW.region ?_
  refine RW.op1 rfl (runs_move rfl) ?_
  refine RW.done ?_
  refine AQ.next ?_
  refine CW.block ?_
  -- loop 1
  refine CW.loop (Nat × Imm) (fun x w => I.le x.2 ∧ St w0 w x.2 ((b2, .cells (slotV (bestS (bestTo S x.1))).toArray 64) :: (b1, .cells (slotV slot0).toArray 64) :: (Ld ++ L)) ∧ x.1 ≤ 2 ∧ ∀ j, j < x.1 → mayR S (j : Int) = 0) (fun x => [(0, d), (2, .pointer (some ⟨b1, 0, none⟩)), (4, .pointer (some ⟨b2, 0, none⟩)), (5, .bool (bestTo S x.1).isSome), (10, .int .i64 (x.1 : Int))]) (fun x => 2 - x.1) ⟨(0, _), ⟨hle, hst, Nat.zero_le _, fun j h => absurd h (Nat.not_lt_zero _)⟩, ⟨rfl, rfl, rfl, rfl, rfl, trivial⟩⟩ ?_
  clear hle hst
  rintro ⟨k, IK⟩ w ⟨hle, hst, hk, h0⟩
  dsimp only at hle hst hk h0 ⊢
  refine CW.seq ?_
  -- region 4
  refine CW.region ?_
  refine RW.op1 rfl (runs_lss rfl rfl) ?_
  refine RW.done ?_
  refine AQ.next ?_
  refine CW.seq ?_
  refine CW.cond rfl (fun hc11 => ?_) (fun hc11 => ?_)
  · have hcb11 := hc11
    try simp only [decide_eq_true_eq, decide_eq_false_iff_not] at hc11
    refine CW.skip ?_
    refine AQ.next ?_
    refine CW.seq ?_
    refine CW.block ?_
    refine CW.seq ?_
    -- region 5
    refine CW.region ?_
    refine RW.op1 rfl (runs_move rfl) ?_
    refine RW.op1 rfl (runs_assign rfl) ?_
    refine RW.done ?_
    refine AQ.next ?_
    refine CW.seq ?_
    -- region 6
    refine CW.region ?_
    refine RW.op1 rfl (runs_move rfl) ?_
    refine RW.op1 rfl (runs_move rfl) ?_
    refine RW.call rfl call44 rfl rfl (load_spec hd (hst.perm (perm_two2 _ _ Ld L)) (k : Int)) ?_
    rintro e w ⟨I3, hI3, rfl, hstn⟩
    clear hst
    have hst := hstn
    clear hstn
    replace hst := hst.perm (perm_two2 _ _ Ld L).symm
    replace hle := hle.trans hI3
    refine ⟨_, rfl, ?_⟩
    refine RW.op1 rfl (runs_move rfl) ?_
    refine RW.op1 rfl (runs_extract rfl rfl) ?_
    refine RW.op1 rfl (runs_extract rfl rfl) ?_
    refine RW.op1 rfl (runs_extract rfl rfl) ?_
    refine RW.opE rfl (runs_alloc ti64 hst) ?_
    rintro _ w ⟨b4, rfl, hstn⟩
    clear hst
    have hst := hstn
    clear hstn
    first
      | refine RW.opE0 (runs_storeW ti64 rfl rfl hst (k := 0) rfl rfl rfl (NoFz.zero _) rfl) ?_
      | refine RW.opE0 (runs_storeP ti64 rfl rfl hst (k := 0) rfl rfl rfl (NoFz.zero _) rfl) ?_
      | refine RW.opE0 (runs_storeW ti64 rfl rfl hst (k := 1) rfl rfl rfl (NoFz.zero _) rfl) ?_
      | refine RW.opE0 (runs_storeP ti64 rfl rfl hst (k := 1) rfl rfl rfl (NoFz.zero _) rfl) ?_
      | refine RW.opE0 (runs_storeW ti64 rfl rfl hst (k := 2) rfl rfl rfl (NoFz.zero _) rfl) ?_
      | refine RW.opE0 (runs_storeP ti64 rfl rfl hst (k := 2) rfl rfl rfl (NoFz.zero _) rfl) ?_
    rintro w hstn
    clear hst
    have hst := hstn
    clear hstn
    try simp only [List.set_cons_zero, List.set_cons_succ] at hst
    refine RW.op1 rfl (runs_assign rfl) ?_
    refine RW.op1 rfl (runs_assign rfl) ?_
    refine RW.done ?_
    refine AQ.next ?_
    refine CW.seq ?_
    refine CW.seq ?_
    -- region 7
    refine CW.region ?_
    refine RW.op1 rfl (runs_move rfl) ?_
    refine RW.op1 rfl (runs_neI rfl rfl) ?_
    refine RW.done ?_
    refine AQ.next ?_
    refine CW.cond rfl (fun hc21 => ?_) (fun hc21 => ?_)
    · have hcb21 := hc21
      try simp only [decide_eq_true_eq, decide_eq_false_iff_not] at hc21
      have hm : mayR S (k : Int) ≠ 0 := by rw [← load_er]; exact hc21
      have hr := newest_bad (by omega) h0 hm
      rw [load_er]
      refine CW.seq ?_
      -- region 8
      refine CW.region ?_
      refine RW.op1 rfl (runs_buildF (cells := [_, _, _, _, _]) bz64 rfl rfl rfl rfl rfl) ?_
      refine RW.op1 rfl (runs_move rfl) ?_
      first
        | refine RW.opE0 (runs_storeW ti64 rfl rfl hst (k := 0) rfl rfl rfl (NoFz.zero _) rfl) ?_
        | refine RW.opE0 (runs_storeP ti64 rfl rfl hst (k := 0) rfl rfl rfl (NoFz.zero _) rfl) ?_
        | refine RW.opE0 (runs_storeW ti64 rfl rfl hst (k := 1) rfl rfl rfl (NoFz.zero _) rfl) ?_
        | refine RW.opE0 (runs_storeP ti64 rfl rfl hst (k := 1) rfl rfl rfl (NoFz.zero _) rfl) ?_
        | refine RW.opE0 (runs_storeW ti64 rfl rfl hst (k := 2) rfl rfl rfl (NoFz.zero _) rfl) ?_
        | refine RW.opE0 (runs_storeP ti64 rfl rfl hst (k := 2) rfl rfl rfl (NoFz.zero _) rfl) ?_
      rintro w hstn
      clear hst
      have hst := hstn
      clear hstn
      try simp only [List.set_cons_zero, List.set_cons_succ] at hst
      refine RW.op1 rfl (runs_assign rfl) ?_
      refine RW.done ?_
      refine AQ.next ?_
      refine CW.ret ?_
      refine AQ.past_ret ?_
      refine AQ.block_ret ?_
      refine AQ.past_ret ?_
      refine AQ.past_ret ?_
      refine AQ.block_ret ?_
      refine AQ.past_ret ?_
      refine AQ.retL (rs := [.cell 2 64, .tmp 3]) (vs := [_, _]) rfl ⟨⟨_, rfl, hst.loadN (vs := [_, _, _, _, _]) (k := 2) ag64 ti64 rfl rfl rfl⟩, rfl, trivial⟩ (by simp) ?_
      rw [hr]
      exact ⟨_, hle, rfl, hst.drop1.drop1.drop1⟩
    · have hcb21 := hc21
      try simp only [decide_eq_true_eq, decide_eq_false_iff_not] at hc21
      have hm0 : mayR S (k : Int) = 0 := by rw [← load_er]; exact Decidable.of_not_not hc21
      have hlo := load_ok hm0
      rw [hlo] at hst ⊢
      have h01 : ∀ j, j < k + 1 → mayR S (j : Int) = 0 := fun j hj => by
        by_cases h : j < k
        · exact h0 j h
        · obtain rfl : j = k := by omega
          exact hm0
      refine CW.skip ?_
      refine AQ.next ?_
      refine CW.seq ?_
      -- region 9
      refine CW.region ?_
      refine RW.op1 rfl (runs_move rfl) ?_
      refine RW.op1 rfl (runs_move rfl) ?_
      refine RW.split (t := 25) rfl (fun hb25 => ?_) (fun hb25 => ?_)
      · have hb25p := hb25
        try simp only [decide_eq_true_eq, decide_eq_false_iff_not] at hb25p
        refine RW.on_guard rfl rfl rfl rfl hb25 ?_
        refine RW.op1 rfl (runs_move rfl) ?_
        refine RW.on_guard rfl rfl rfl rfl hb25 ?_
        refine RW.op1 rfl (runs_not rfl) ?_
        refine RW.on_guard rfl rfl rfl rfl hb25 ?_
        refine RW.op1 rfl (runs_move rfl) ?_
        refine RW.split (t := 28) rfl (fun hb28 => ?_) (fun hb28 => ?_)
        · have hb28p := hb28
          try simp only [decide_eq_true_eq, decide_eq_false_iff_not] at hb28p
          refine RW.off_guard rfl rfl rfl rfl hb28 ?_
          refine RW.off_guard rfl rfl rfl rfl hb28 ?_
          refine RW.off_guard rfl rfl rfl rfl hb28 ?_
          refine RW.off_guard rfl rfl rfl rfl hb28 ?_
          refine RW.off_guard rfl rfl rfl rfl hb28 ?_
          refine RW.on_guard rfl rfl rfl rfl hb25 ?_
          refine RW.op1 rfl (runs_pick_true rfl hb28 rfl) ?_
          refine RW.op1 rfl (runs_pick_true rfl hb25 rfl) ?_
          refine RW.done ?_
          refine AQ.next ?_
          refine CW.cond_true rfl ?_
          -- region 10
          refine CW.region ?_
          first
            | refine RW.op1 rfl (runs_loadN (vs := [_, _, _, _, _]) ag64 ti64 rfl hst (k := 0) rfl rfl rfl) ?_
            | refine RW.op1 rfl (runs_loadN (vs := [_, _, _, _, _]) ag64 ti64 rfl hst (k := 1) rfl rfl rfl) ?_
            | refine RW.op1 rfl (runs_loadN (vs := [_, _, _, _, _]) ag64 ti64 rfl hst (k := 2) rfl rfl rfl) ?_
          first
            | refine RW.opE0 (runs_storeW ti64 rfl rfl hst (k := 0) rfl rfl rfl (NoFz.zero _) rfl) ?_
            | refine RW.opE0 (runs_storeP ti64 rfl rfl hst (k := 0) rfl rfl rfl (NoFz.zero _) rfl) ?_
            | refine RW.opE0 (runs_storeW ti64 rfl rfl hst (k := 1) rfl rfl rfl (NoFz.zero _) rfl) ?_
            | refine RW.opE0 (runs_storeP ti64 rfl rfl hst (k := 1) rfl rfl rfl (NoFz.zero _) rfl) ?_
            | refine RW.opE0 (runs_storeW ti64 rfl rfl hst (k := 2) rfl rfl rfl (NoFz.zero _) rfl) ?_
            | refine RW.opE0 (runs_storeP ti64 rfl rfl hst (k := 2) rfl rfl rfl (NoFz.zero _) rfl) ?_
          rintro w hstn
          clear hst
          have hst := hstn
          clear hstn
          try simp only [List.set_cons_zero, List.set_cons_succ] at hst
          refine RW.op1 rfl (runs_assign rfl) ?_
          refine RW.done ?_
          refine AQ.block_normal ?_
          refine AQ.next ?_
          -- region 11
          refine CW.region ?_
          refine RW.op1 rfl (runs_add rfl rfl (by omega)) ?_
          refine RW.op1 rfl (runs_move rfl) ?_
          refine RW.done ?_
          have hb := better_take (x := bestTo S k) hb25 (.inl (by simpa using hb28))
          exact AQ.again (x := (k, IK)) (k + 1, _) ⟨hle, by
            show St _ _ _ ((b2, .cells (slotV (bestS (better (bestTo S k) (slotAt (readR S (k : Int)))))).toArray 64) :: _)
            rw [hb.1]
            exact hst.drop1, by dsimp only; omega, h01⟩ ⟨rfl, rfl, rfl, by
            show _ = some (Value.bool (better (bestTo S k) (slotAt (readR S (k : Int)))).isSome)
            rw [hb.2]
            rfl, rfl, trivial⟩ (by dsimp only; omega)
        · have hb28p := hb28
          try simp only [decide_eq_true_eq, decide_eq_false_iff_not] at hb28p
          refine RW.on_guard rfl rfl rfl rfl hb28 ?_
          first
            | refine RW.op1 rfl (runs_fieldAddr0 rfl Try.underlying64 rfl ti3 (by decide)) ?_
            | refine RW.op1 rfl (runs_fieldAddr rfl Try.underlying64 rfl ti3 (by decide)) ?_
          refine RW.on_guard rfl rfl rfl rfl hb28 ?_
          first
            | refine RW.op1 rfl (runs_load1 sc3 rfl (hst.cell_own (k := 0) rfl rfl)) ?_
            | refine RW.op1 rfl (runs_load1 sc3 rfl (hst.cell_own (k := 1) rfl rfl)) ?_
            | refine RW.op1 rfl (runs_load1 sc3 rfl (hst.cell_own (k := 2) rfl rfl)) ?_
          refine RW.on_guard rfl rfl rfl rfl hb28 ?_
          first
            | refine RW.op1 rfl (runs_fieldAddr0 rfl Try.underlying64 rfl ti3 (by decide)) ?_
            | refine RW.op1 rfl (runs_fieldAddr rfl Try.underlying64 rfl ti3 (by decide)) ?_
          refine RW.on_guard rfl rfl rfl rfl hb28 ?_
          first
            | refine RW.op1 rfl (runs_load1 sc3 rfl (hst.cell_own (k := 0) rfl rfl)) ?_
            | refine RW.op1 rfl (runs_load1 sc3 rfl (hst.cell_own (k := 1) rfl rfl)) ?_
            | refine RW.op1 rfl (runs_load1 sc3 rfl (hst.cell_own (k := 2) rfl rfl)) ?_
          refine RW.on_guard rfl rfl rfl rfl hb28 ?_
          refine RW.op1 rfl (runs_gtr rfl rfl) ?_
          refine RW.on_guard rfl rfl rfl rfl hb25 ?_
          refine RW.op1 rfl (runs_pick_false rfl hb28 rfl) ?_
          refine RW.op1 rfl (runs_pick_true rfl hb25 rfl) ?_
          refine RW.done ?_
          refine AQ.next ?_
          refine CW.cond rfl (fun hc35 => ?_) (fun hc35 => ?_)
          · have hcb35 := hc35
            try simp only [decide_eq_true_eq, decide_eq_false_iff_not] at hc35
            -- region 10
            refine CW.region ?_
            first
              | refine RW.op1 rfl (runs_loadN (vs := [_, _, _, _, _]) ag64 ti64 rfl hst (k := 0) rfl rfl rfl) ?_
              | refine RW.op1 rfl (runs_loadN (vs := [_, _, _, _, _]) ag64 ti64 rfl hst (k := 1) rfl rfl rfl) ?_
              | refine RW.op1 rfl (runs_loadN (vs := [_, _, _, _, _]) ag64 ti64 rfl hst (k := 2) rfl rfl rfl) ?_
            first
              | refine RW.opE0 (runs_storeW ti64 rfl rfl hst (k := 0) rfl rfl rfl (NoFz.zero _) rfl) ?_
              | refine RW.opE0 (runs_storeP ti64 rfl rfl hst (k := 0) rfl rfl rfl (NoFz.zero _) rfl) ?_
              | refine RW.opE0 (runs_storeW ti64 rfl rfl hst (k := 1) rfl rfl rfl (NoFz.zero _) rfl) ?_
              | refine RW.opE0 (runs_storeP ti64 rfl rfl hst (k := 1) rfl rfl rfl (NoFz.zero _) rfl) ?_
              | refine RW.opE0 (runs_storeW ti64 rfl rfl hst (k := 2) rfl rfl rfl (NoFz.zero _) rfl) ?_
              | refine RW.opE0 (runs_storeP ti64 rfl rfl hst (k := 2) rfl rfl rfl (NoFz.zero _) rfl) ?_
            rintro w hstn
            clear hst
            have hst := hstn
            clear hstn
            try simp only [List.set_cons_zero, List.set_cons_succ] at hst
            refine RW.op1 rfl (runs_assign rfl) ?_
            refine RW.done ?_
            refine AQ.block_normal ?_
            refine AQ.next ?_
            -- region 11
            refine CW.region ?_
            refine RW.op1 rfl (runs_add rfl rfl (by omega)) ?_
            refine RW.op1 rfl (runs_move rfl) ?_
            refine RW.done ?_
            have hb := better_take (x := bestTo S k) hb25 (.inr (by simpa using hc35))
            exact AQ.again (x := (k, IK)) (k + 1, _) ⟨hle, by
              show St _ _ _ ((b2, .cells (slotV (bestS (better (bestTo S k) (slotAt (readR S (k : Int)))))).toArray 64) :: _)
              rw [hb.1]
              exact hst.drop1, by dsimp only; omega, h01⟩ ⟨rfl, rfl, rfl, by
              show _ = some (Value.bool (better (bestTo S k) (slotAt (readR S (k : Int)))).isSome)
              rw [hb.2]
              rfl, rfl, trivial⟩ (by dsimp only; omega)
          · have hcb35 := hc35
            try simp only [decide_eq_true_eq, decide_eq_false_iff_not] at hc35
            refine CW.skip ?_
            refine AQ.block_normal ?_
            refine AQ.next ?_
            -- region 11
            refine CW.region ?_
            refine RW.op1 rfl (runs_add rfl rfl (by omega)) ?_
            refine RW.op1 rfl (runs_move rfl) ?_
            refine RW.done ?_
            have hb := better_keep (x := bestTo S k) (y := slotAt (readR S (k : Int))) (.inr ⟨by simpa using hb28, by simpa using hc35⟩)
            exact AQ.again (x := (k, IK)) (k + 1, _) ⟨hle, by
              show St _ _ _ ((b2, .cells (slotV (bestS (better (bestTo S k) (slotAt (readR S (k : Int)))))).toArray 64) :: _)
              rw [hb]
              exact hst.drop1, by dsimp only; omega, h01⟩ ⟨rfl, rfl, rfl, by
              show _ = some (Value.bool (better (bestTo S k) (slotAt (readR S (k : Int)))).isSome)
              rw [hb]
              rfl, rfl, trivial⟩ (by dsimp only; omega)
      · have hb25p := hb25
        try simp only [decide_eq_true_eq, decide_eq_false_iff_not] at hb25p
        refine RW.off_guard rfl rfl rfl rfl hb25 ?_
        refine RW.off_guard rfl rfl rfl rfl hb25 ?_
        refine RW.off_guard rfl rfl rfl rfl hb25 ?_
        refine RW.off_undef rfl rfl rfl rfl ?_
        refine RW.off_undef rfl rfl rfl rfl ?_
        refine RW.off_undef rfl rfl rfl rfl ?_
        refine RW.off_undef rfl rfl rfl rfl ?_
        refine RW.off_undef rfl rfl rfl rfl ?_
        refine RW.off_guard rfl rfl rfl rfl hb25 ?_
        refine RW.op1 rfl (runs_pick_false rfl hb25 rfl) ?_
        refine RW.done ?_
        refine AQ.next ?_
        refine CW.cond_false rfl ?_
        refine CW.skip ?_
        refine AQ.block_normal ?_
        refine AQ.next ?_
        -- region 11
        refine CW.region ?_
        refine RW.op1 rfl (runs_add rfl rfl (by omega)) ?_
        refine RW.op1 rfl (runs_move rfl) ?_
        refine RW.done ?_
        have hb := better_keep (x := bestTo S k) (y := slotAt (readR S (k : Int))) (.inl hb25)
        exact AQ.again (x := (k, IK)) (k + 1, _) ⟨hle, by
          show St _ _ _ ((b2, .cells (slotV (bestS (better (bestTo S k) (slotAt (readR S (k : Int)))))).toArray 64) :: _)
          rw [hb]
          exact hst.drop1, by dsimp only; omega, h01⟩ ⟨rfl, rfl, rfl, by
          show _ = some (Value.bool (better (bestTo S k) (slotAt (readR S (k : Int)))).isSome)
          rw [hb]
          rfl, rfl, trivial⟩ (by dsimp only; omega)
  · have hcb11 := hc11
    try simp only [decide_eq_true_eq, decide_eq_false_iff_not] at hc11
    refine CW.exit ?_
    refine AQ.past_exit ?_
    refine AQ.past_exit ?_
    refine AQ.block_hit ?_
    refine AQ.next ?_
    refine CW.seq ?_
    refine CW.seq ?_
    -- region 12
    refine CW.region ?_
    refine RW.op1 rfl (runs_move rfl) ?_
    refine RW.op1 rfl (runs_not rfl) ?_
    refine RW.done ?_
    refine AQ.next ?_
    refine CW.cond rfl (fun hc39 => ?_) (fun hc39 => ?_)
    · have hcb39 := hc39
      try simp only [decide_eq_true_eq, decide_eq_false_iff_not] at hc39
      have h0n := newest_end (S := S) (fun j hj => h0 j (by omega))
      obtain rfl : k = 2 := by omega
      refine CW.seq ?_
      -- region 13
      refine CW.region ?_
      refine RW.op1 rfl (runs_buildF (cells := [_, _, _, _, _]) bz64 rfl rfl rfl rfl rfl) ?_
      first
        | refine RW.opE0 (runs_storeW ti64 rfl rfl hst (k := 0) rfl rfl rfl (NoFz.zero _) rfl) ?_
        | refine RW.opE0 (runs_storeP ti64 rfl rfl hst (k := 0) rfl rfl rfl (NoFz.zero _) rfl) ?_
        | refine RW.opE0 (runs_storeW ti64 rfl rfl hst (k := 1) rfl rfl rfl (NoFz.zero _) rfl) ?_
        | refine RW.opE0 (runs_storeP ti64 rfl rfl hst (k := 1) rfl rfl rfl (NoFz.zero _) rfl) ?_
        | refine RW.opE0 (runs_storeW ti64 rfl rfl hst (k := 2) rfl rfl rfl (NoFz.zero _) rfl) ?_
        | refine RW.opE0 (runs_storeP ti64 rfl rfl hst (k := 2) rfl rfl rfl (NoFz.zero _) rfl) ?_
      rintro w hstn
      clear hst
      have hst := hstn
      clear hstn
      try simp only [List.set_cons_zero, List.set_cons_succ] at hst
      refine RW.op1 rfl (runs_assign rfl) ?_
      refine RW.done ?_
      refine AQ.next ?_
      refine CW.ret ?_
      refine AQ.past_ret ?_
      refine AQ.retL (rs := [.cell 2 64, .tmp 3]) (vs := [_, _]) rfl ⟨⟨_, rfl, hst.loadN (vs := [_, _, _, _, _]) (k := 1) ag64 ti64 rfl rfl rfl⟩, rfl, trivial⟩ (by simp) ?_
      have hno : newestR S = (slot0, 3) := by
        rw [h0n]
        cases hb : bestTo S 2 with
        | none => rfl
        | some s => rw [hb] at hc39; cases hc39
      rw [hno]
      exact ⟨_, hle, rfl, hst.drop1.drop1⟩
    · have hcb39 := hc39
      try simp only [decide_eq_true_eq, decide_eq_false_iff_not] at hc39
      have h0n := newest_end (S := S) (fun j hj => h0 j (by omega))
      obtain rfl : k = 2 := by omega
      refine CW.skip ?_
      refine AQ.next ?_
      refine CW.seq ?_
      -- region 14
      refine CW.region ?_
      first
        | refine RW.op1 rfl (runs_loadN (vs := [_, _, _, _, _]) ag64 ti64 rfl hst (k := 0) rfl rfl rfl) ?_
        | refine RW.op1 rfl (runs_loadN (vs := [_, _, _, _, _]) ag64 ti64 rfl hst (k := 1) rfl rfl rfl) ?_
        | refine RW.op1 rfl (runs_loadN (vs := [_, _, _, _, _]) ag64 ti64 rfl hst (k := 2) rfl rfl rfl) ?_
      first
        | refine RW.opE0 (runs_storeW ti64 rfl rfl hst (k := 0) rfl rfl rfl (NoFz.zero _) rfl) ?_
        | refine RW.opE0 (runs_storeP ti64 rfl rfl hst (k := 0) rfl rfl rfl (NoFz.zero _) rfl) ?_
        | refine RW.opE0 (runs_storeW ti64 rfl rfl hst (k := 1) rfl rfl rfl (NoFz.zero _) rfl) ?_
        | refine RW.opE0 (runs_storeP ti64 rfl rfl hst (k := 1) rfl rfl rfl (NoFz.zero _) rfl) ?_
        | refine RW.opE0 (runs_storeW ti64 rfl rfl hst (k := 2) rfl rfl rfl (NoFz.zero _) rfl) ?_
        | refine RW.opE0 (runs_storeP ti64 rfl rfl hst (k := 2) rfl rfl rfl (NoFz.zero _) rfl) ?_
      rintro w hstn
      clear hst
      have hst := hstn
      clear hstn
      try simp only [List.set_cons_zero, List.set_cons_succ] at hst
      refine RW.op1 rfl (runs_assign rfl) ?_
      refine RW.done ?_
      refine AQ.next ?_
      refine CW.ret ?_
      refine AQ.retL (rs := [.cell 2 64, .tmp 3]) (vs := [_, _]) rfl ⟨⟨_, rfl, hst.loadN (vs := [_, _, _, _, _]) (k := 1) ag64 ti64 rfl rfl rfl⟩, rfl, trivial⟩ (by simp) ?_
      have hno : newestR S = (bestS (bestTo S 2), 0) := by
        rw [h0n]
        cases hb : bestTo S 2 with
        | none => rw [hb] at hc39; cases hc39
        | some s => rfl
      rw [hno]
      exact ⟨_, hle, rfl, hst.drop1.drop1⟩
end Go.Proofs.YthocicjjighbnaaX
