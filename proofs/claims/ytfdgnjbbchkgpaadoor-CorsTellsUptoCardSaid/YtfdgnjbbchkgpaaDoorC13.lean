/- Of any request whether it is plain; of any answer whether it may be read, or asked further; of any text its parts. -/
import Derived.Test.YtfdgnjbbchkgpaaDoorT
import Derived.Test.YtfdgnjbbchkgpaaDoorC12
namespace Go.Proofs.YtfdgnjbbchkgpaaDoorX
set_option linter.unusedVariables false
set_option linter.unusedSimpArgs false
open Go Go.RowKit Go.Proofs

def mt7 : List (List UInt8) := [getL, postL, [80, 85, 84], [68, 69, 76, 69, 84, 69], headL, [112, 117, 116], []]
def og5 : List (List UInt8) := [ohL, [104, 116, 116, 112, 58, 47, 47, 97, 46, 98], [110, 117, 108, 108], [42], []]
theorem mt7_len : ∀ j, j < 7 → (mt7.getD j []).length ≤ 100 := by decide
theorem og5_len : ∀ j, j < 5 → (og5.getD j []).length ≤ 100 := by decide
set_option maxRecDepth 100000 in
set_option maxHeartbeats 4000000 in
theorem ctells_spec {w0 w : World} {I : Imm} {L : Own} (hst : St w0 w I L) (hM : MaxK I) (n m kk : Int) (hn : i64ok n) (hm : i64ok m) (hkk : i64ok kk) {vi : Value} {ls : List Int} (hl : RdI I vi ls) (hls : ∀ x ∈ ls, i64ok x) (hll : ls.length ≤ 9223372036854775807) (s : ByteArray) (hs : s.size ≤ 1048576) (creds : Bool) :
    Calls Tryd.prog 5 #[.int .i64 n, .int .i64 m, .int .i64 kk, vi, .string s, .bool creds] w fun e w' => e = .returned (.bool true) ∧ ∃ I', I.le I' ∧ St w0 w' I' L := by
  have hs2 : (s ++ ByteArray.mk #[44, 32, 65, 44, 44, 98, 32, 44] ++ s).size < 4294967281 := by rw [ByteArray.size_append, ByteArray.size_append]; show s.size + 8 + s.size < _; omega
  have hp1 := parts_len s.toList
  have hp2 := parts_len (s ++ ByteArray.mk #[44, 32, 65, 44, 44, 98, 32, 44] ++ s).toList
  have hz1 := size_toList s
  have hz2 := size_toList (s ++ ByteArray.mk #[44, 32, 65, 44, 44, 98, 32, 44] ++ s)
  refine enter Tryd.func5 rfl (N := 92) rfl rfl ?_
  simp only [List.zipIdx_cons, List.zipIdx_nil, List.map_cons, List.map_nil, Nat.zero_add, Nat.reduceAdd]
  have hle := Imm.le.refl I
  refine CW.seq ?_
  -- region 0
  refine CW.region ?_
  refine RW.op1 rfl (runs_assign rfl) ?_
  refine RW.done ?_
  refine AQ.next ?_
  refine CW.seq ?_
  -- region 1
  refine CW.region ?_
  refine RW.op1 rfl (runs_move rfl) ?_
  refine RW.op1 rfl (runs_move rfl) ?_
  refine RW.op1 rfl (runs_move rfl) ?_
  refine RW.call rfl call15 rfl rfl (reply_spec hst n hn hl hls hll s) ?_
  rintro e w ⟨I1, vh, code, hs0, body, hI1, rfl, hstn, hv, hmd⟩
  clear hst
  have hst := hstn
  clear hstn
  have hok := hmd.hb
  obtain ⟨hA, hcap, rfl⟩ : ∃ A c, vh = .slice A hs0.length c := by obtain ⟨_, _, A, c, e, _⟩ := hv; exact ⟨A, c, e⟩
  replace hM := hM.mono hI1
  replace hle := hle.trans hI1
  refine ⟨_, rfl, ?_⟩
  refine RW.opE rfl (runs_alloc ti40 hst) ?_
  rintro _ w ⟨b2, rfl, hstn⟩
  clear hst
  have hst := hstn
  clear hstn
  first
    | refine RW.opE0 (runs_storeW ti40 rfl rfl hst (k := 0) rfl rfl rfl (NoFz.zero _) rfl) ?_
    | refine RW.opE0 (runs_storeP ti40 rfl rfl hst (k := 0) rfl rfl rfl (NoFz.zero _) rfl) ?_
    | refine RW.opE0 (runs_storeW ti40 rfl rfl hst (k := 1) rfl rfl rfl (NoFz.zero _) rfl) ?_
    | refine RW.opE0 (runs_storeP ti40 rfl rfl hst (k := 1) rfl rfl rfl (NoFz.zero _) rfl) ?_
    | refine RW.opE0 (runs_storeW ti40 rfl rfl hst (k := 2) rfl rfl rfl (NoFz.zero _) rfl) ?_
    | refine RW.opE0 (runs_storeP ti40 rfl rfl hst (k := 2) rfl rfl rfl (NoFz.zero _) rfl) ?_
  rintro w hstn
  clear hst
  have hst := hstn
  clear hstn
  try simp only [List.set_cons_zero, List.set_cons_succ] at hst
  refine RW.done ?_
  refine AQ.next ?_
  refine CW.seq ?_
  -- region 2
  refine CW.region ?_
  refine RW.op1 rfl (runs_move rfl) ?_
  refine RW.call rfl call16 rfl rfl (heads_spec hst m hm ⟨#[]⟩) ?_
  rintro e w ⟨I4, vl2, hh, hI4, rfl, hstn, hvl, hhm⟩
  clear hst
  have hst := hstn
  clear hstn
  have hhb := hhm.hb (by decide)
  replace hM := hM.mono hI4
  replace hv := hv.mono hI4
  replace hle := hle.trans hI4
  refine ⟨_, rfl, ?_⟩
  refine RW.op1 rfl (runs_assign rfl) ?_
  refine RW.done ?_
  refine AQ.next ?_
  refine CW.seq ?_
  -- region 3
  refine CW.region ?_
  refine RW.opE rfl (runs_lit1R Tryd.underlying23 ti9 (by decide) rfl rfl rfl (by simp [Value.oneCell']) hst) ?_
  rintro u5 w ⟨I5, hI5, hstn, h5⟩
  clear hst
  have hst := hstn
  clear hstn
  replace hM := hM.mono hI5
  replace hv := hv.mono hI5
  replace hvl := hvl.mono hI5
  replace hle := hle.trans hI5
  have hMt : RdS _ u5 (mt7.map strOf) := h5
  refine RW.op1 rfl (runs_move rfl) ?_
  refine RW.op1 rfl (runs_quo rfl rfl (by decide)) ?_
  obtain ⟨q7, hqe⟩ : ∃ q, IntKind.i64.wrap (m.tdiv 7) = q := ⟨_, rfl⟩
  have hq7 : i64ok q7 := by rw [← hqe]; exact wrap_ok _
  rw [hqe]
  refine RW.call rfl call8 rfl rfl (within_spec hst (v := q7) (n := 7) (hq7) (by unfold i64ok; decide)) ?_
  rintro e w ⟨rfl, hstn⟩
  clear hst
  have hst := hstn
  clear hstn
  have qjm := within_range q7 7
  have qjmt := qjm.2 (by decide)
  obtain ⟨jm, hjm⟩ : ∃ j : Nat, within q7 7 = (j : Int) := ⟨(within q7 7).toNat, by omega⟩
  rw [hjm] at qjm qjmt ⊢
  have jml : jm < 7 := by omega
  have esjm := sat_at mt7 jm
  have m1 := mt7_len jm jml
  generalize mt7.getD jm [] = mm at esjm m1
  refine ⟨_, rfl, ?_⟩
  refine RW.op1 rfl (RdL.indexAddr Tryd.underlying23 ti9 (by decide) rfl rfl hMt (by show 0 ≤ (jm : Int) ∧ (jm : Int) < 7; omega)) ?_
  refine RW.op1 rfl (runs_load1 sc9 rfl (hst.cell_imm (RdS.at hMt (by omega) (by show (jm : Int) < 7; omega)))) ?_
  rw [esjm]
  refine RW.op1 rfl (runs_assign rfl) ?_
  refine RW.done ?_
  refine AQ.next ?_
  refine CW.seq ?_
  -- region 4
  refine CW.region ?_
  refine RW.opE rfl (runs_lit1R Tryd.underlying23 ti9 (by decide) rfl rfl rfl (by simp [Value.oneCell']) hst) ?_
  rintro u7 w ⟨I7, hI7, hstn, h7⟩
  clear hst
  have hst := hstn
  clear hstn
  replace hM := hM.mono hI7
  replace hv := hv.mono hI7
  replace hvl := hvl.mono hI7
  replace h5 := h5.mono hI7
  replace hMt := hMt.mono hI7
  replace hle := hle.trans hI7
  have hO : RdS _ u7 (og5.map strOf) := h7
  refine RW.op1 rfl (runs_move rfl) ?_
  refine RW.call rfl call8 rfl rfl (within_spec hst (v := kk) (n := 5) (hkk) (by unfold i64ok; decide)) ?_
  rintro e w ⟨rfl, hstn⟩
  clear hst
  have hst := hstn
  clear hstn
  have qjo := within_range kk 5
  have qjot := qjo.2 (by decide)
  obtain ⟨jo, hjo⟩ : ∃ j : Nat, within kk 5 = (j : Int) := ⟨(within kk 5).toNat, by omega⟩
  rw [hjo] at qjo qjot ⊢
  have jol : jo < 5 := by omega
  have esjo := sat_at og5 jo
  have o1 := og5_len jo jol
  generalize og5.getD jo [] = oo at esjo o1
  refine ⟨_, rfl, ?_⟩
  refine RW.op1 rfl (RdL.indexAddr Tryd.underlying23 ti9 (by decide) rfl rfl hO (by show 0 ≤ (jo : Int) ∧ (jo : Int) < 5; omega)) ?_
  refine RW.op1 rfl (runs_load1 sc9 rfl (hst.cell_imm (RdS.at hO (by omega) (by show (jo : Int) < 5; omega)))) ?_
  rw [esjo]
  refine RW.op1 rfl (runs_assign rfl) ?_
  refine RW.done ?_
  refine AQ.next ?_
  refine CW.seq ?_
  -- region 5
  refine CW.drawSt hst (.q 0 (.q 1 (.q 3 (.q 4 (.l 2 (.l 5 (.q 6 (.q 7 (.q 8 (.q 10 (.q 11 (.q 13 (.q 14 (.q 15 (.l 9 (.l 12 (.l 16 (.q 17 (.q 18 (.q 19 (.q 20 (.q 22 (.q 23 (.q 24 (.q 25 (.q 27 (.q 28 (.q 29 (.q 30 (.q 31 (.l 21 (.l 26 (.l 32 (.q 33 (.q 34 (.q 35 (.q 36 (.q 38 (.l 37 (.l 39 (.l 40 (.q 41 (.q 42 (.q 43 (.q 44 (.q 45 (.q 46 (.q 48 (.q 49 (.q 50 (.q 51 (.l 47 (.l 52 (.l 53 (.q 54 (.q 55 (.l 56 (.q 57 (.q 58 .nil))))))))))))))))))))))))))))))))))))))))))))))))))))))))))) follows (by kernel_rfl) (fun w hst => ?_)
  refine DRW.q rfl rfl (fun w' hF => runs_move rfl) ?_
  refine DRW.q rfl rfl (fun w' hF => runs_move rfl) ?_
  refine DRW.q rfl rfl (fun w' hF => runs_move rfl) ?_
  refine DRW.q rfl rfl (fun w' hF => runs_move rfl) ?_
  refine DRW.call rfl rfl call14 rfl rfl (plain_spec hst hM hvl hhb (strOf mm)) ?_
  rintro e w ⟨I9, hI9, rfl, hstn⟩
  clear hst
  have hst := hstn
  clear hstn
  obtain ⟨p1, hp1e⟩ : ∃ b, plainL (strOf mm).toList hh = b := ⟨_, rfl⟩
  rw [hp1e]
  replace hM := hM.mono hI9
  replace hv := hv.mono hI9
  replace hvl := hvl.mono hI9
  replace h5 := h5.mono hI9
  replace hMt := hMt.mono hI9
  replace h7 := h7.mono hI9
  replace hO := hO.mono hI9
  replace hle := hle.trans hI9
  refine ⟨_, rfl, FSt.of hst hI9 (by first | exact (List.sublist_cons_self _ _).trans (List.sublist_append_right _ _) | exact List.Sublist.refl _ | exact List.sublist_cons_self _ _ | exact List.sublist_append_right _ _ | exact (List.sublist_cons_self _ _).trans (List.sublist_cons_self _ _) | exact (List.sublist_append_right _ _).trans (List.sublist_cons_self _ _) | simp), ?_⟩
  refine DRW.call rfl rfl call17 rfl rfl (refPlain_spec hst hvl hhb (strOf mm)) ?_
  rintro e w ⟨I10, hI10, rfl, hstn⟩
  clear hst
  have hst := hstn
  clear hstn
  rw [hp1e]
  replace hM := hM.mono hI10
  replace hv := hv.mono hI10
  replace hvl := hvl.mono hI10
  replace h5 := h5.mono hI10
  replace hMt := hMt.mono hI10
  replace h7 := h7.mono hI10
  replace hO := hO.mono hI10
  replace hle := hle.trans hI10
  refine ⟨_, rfl, FSt.of hst (hI9.trans hI10) (by first | exact (List.sublist_cons_self _ _).trans (List.sublist_append_right _ _) | exact List.Sublist.refl _ | exact List.sublist_cons_self _ _ | exact List.sublist_append_right _ _ | exact (List.sublist_cons_self _ _).trans (List.sublist_cons_self _ _) | exact (List.sublist_append_right _ _).trans (List.sublist_cons_self _ _) | simp), ?_⟩
  refine DRW.q rfl rfl (fun w' hF => runs_eqB Tryd.underlying4 rfl rfl) ?_
  refine DRW.q rfl rfl (fun w' hF => runs_move rfl) ?_
  have hk41 := (beq_self_eq_true p1)
  first
    | refine DRW.q_on rfl rfl rfl rfl hk41 rfl (FSt.loadN (vs := [_, _, _, _]) ag40 ti40 rfl (k := 0) rfl rfl rfl) ?_
    | refine DRW.q_on rfl rfl rfl rfl hk41 rfl (FSt.loadN (vs := [_, _, _, _]) ag40 ti40 rfl (k := 1) rfl rfl rfl) ?_
    | refine DRW.q_on rfl rfl rfl rfl hk41 rfl (FSt.loadN (vs := [_, _, _, _]) ag40 ti40 rfl (k := 2) rfl rfl rfl) ?_
  refine DRW.q_on rfl rfl rfl rfl hk41 rfl (fun w' hF => runs_move rfl) ?_
  refine DRW.q_on rfl rfl rfl rfl hk41 rfl (fun w' hF => runs_move rfl) ?_
  first
    | refine DRW.q_on rfl rfl rfl rfl hk41 rfl (FSt.loadN (vs := [_, _, _, _]) ag40 ti40 rfl (k := 0) rfl rfl rfl) ?_
    | refine DRW.q_on rfl rfl rfl rfl hk41 rfl (FSt.loadN (vs := [_, _, _, _]) ag40 ti40 rfl (k := 1) rfl rfl rfl) ?_
    | refine DRW.q_on rfl rfl rfl rfl hk41 rfl (FSt.loadN (vs := [_, _, _, _]) ag40 ti40 rfl (k := 2) rfl rfl rfl) ?_
  refine DRW.q_on rfl rfl rfl rfl hk41 rfl (fun w' hF => runs_move rfl) ?_
  refine DRW.q_on rfl rfl rfl rfl hk41 rfl (fun w' hF => runs_move rfl) ?_
  refine DRW.call_on rfl rfl rfl rfl hk41 rfl call18 rfl rfl (to_spec hst code hv body false) ?_
  rintro e w ⟨I11, hI11, rfl, hstn⟩
  clear hst
  have hst := hstn
  clear hstn
  replace hM := hM.mono hI11
  replace hv := hv.mono hI11
  replace hvl := hvl.mono hI11
  replace h5 := h5.mono hI11
  replace hMt := hMt.mono hI11
  replace h7 := h7.mono hI11
  replace hO := hO.mono hI11
  replace hle := hle.trans hI11
  refine ⟨_, rfl, FSt.of hst ((hI9.trans hI10).trans hI11) (by first | exact (List.sublist_cons_self _ _).trans (List.sublist_append_right _ _) | exact List.Sublist.refl _ | exact List.sublist_cons_self _ _ | exact List.sublist_append_right _ _ | exact (List.sublist_cons_self _ _).trans (List.sublist_cons_self _ _) | exact (List.sublist_append_right _ _).trans (List.sublist_cons_self _ _) | simp), ?_⟩
  refine DRW.call_on rfl rfl rfl rfl hk41 rfl call12 rfl rfl (check_spec hst hv hok code body false (strOf oo) creds) ?_
  rintro e w ⟨I12, hI12, rfl, hstn⟩
  clear hst
  have hst := hstn
  clear hstn
  obtain ⟨p2, hp2e⟩ : ∃ b, decide (CheckR hs0 (strOf oo).toList creds) = b := ⟨_, rfl⟩
  rw [hp2e]
  replace hM := hM.mono hI12
  replace hv := hv.mono hI12
  replace hvl := hvl.mono hI12
  replace h5 := h5.mono hI12
  replace hMt := hMt.mono hI12
  replace h7 := h7.mono hI12
  replace hO := hO.mono hI12
  replace hle := hle.trans hI12
  refine ⟨_, rfl, FSt.of hst (((hI9.trans hI10).trans hI11).trans hI12) (by first | exact (List.sublist_cons_self _ _).trans (List.sublist_append_right _ _) | exact List.Sublist.refl _ | exact List.sublist_cons_self _ _ | exact List.sublist_append_right _ _ | exact (List.sublist_cons_self _ _).trans (List.sublist_cons_self _ _) | exact (List.sublist_append_right _ _).trans (List.sublist_cons_self _ _) | simp), ?_⟩
  refine DRW.call_on rfl rfl rfl rfl hk41 rfl call19 rfl rfl (refCors_spec hst hv hok code body false (strOf oo) creds) ?_
  rintro e w ⟨I13, hI13, rfl, hstn⟩
  clear hst
  have hst := hstn
  clear hstn
  rw [hp2e]
  replace hM := hM.mono hI13
  replace hv := hv.mono hI13
  replace hvl := hvl.mono hI13
  replace h5 := h5.mono hI13
  replace hMt := hMt.mono hI13
  replace h7 := h7.mono hI13
  replace hO := hO.mono hI13
  replace hle := hle.trans hI13
  refine ⟨_, rfl, FSt.of hst ((((hI9.trans hI10).trans hI11).trans hI12).trans hI13) (by first | exact (List.sublist_cons_self _ _).trans (List.sublist_append_right _ _) | exact List.Sublist.refl _ | exact List.sublist_cons_self _ _ | exact List.sublist_append_right _ _ | exact (List.sublist_cons_self _ _).trans (List.sublist_cons_self _ _) | exact (List.sublist_append_right _ _).trans (List.sublist_cons_self _ _) | simp), ?_⟩
  refine DRW.q_on rfl rfl rfl rfl hk41 rfl (fun w' hF => runs_eqB Tryd.underlying4 rfl rfl) ?_
  refine DRW.q rfl rfl (fun w' hF => runs_pick_true rfl hk41 rfl) ?_
  refine DRW.q rfl rfl (fun w' hF => runs_move rfl) ?_
  have hk53 := (beq_self_eq_true p2)
  first
    | refine DRW.q_on rfl rfl rfl rfl hk53 rfl (FSt.loadN (vs := [_, _, _, _]) ag40 ti40 rfl (k := 0) rfl rfl rfl) ?_
    | refine DRW.q_on rfl rfl rfl rfl hk53 rfl (FSt.loadN (vs := [_, _, _, _]) ag40 ti40 rfl (k := 1) rfl rfl rfl) ?_
    | refine DRW.q_on rfl rfl rfl rfl hk53 rfl (FSt.loadN (vs := [_, _, _, _]) ag40 ti40 rfl (k := 2) rfl rfl rfl) ?_
  refine DRW.q_on rfl rfl rfl rfl hk53 rfl (fun w' hF => runs_move rfl) ?_
  refine DRW.q_on rfl rfl rfl rfl hk53 rfl (fun w' hF => runs_move rfl) ?_
  refine DRW.q_on rfl rfl rfl rfl hk53 rfl (fun w' hF => runs_move rfl) ?_
  refine DRW.q_on rfl rfl rfl rfl hk53 rfl (fun w' hF => runs_move rfl) ?_
  first
    | refine DRW.q_on rfl rfl rfl rfl hk53 rfl (FSt.loadN (vs := [_, _, _, _]) ag40 ti40 rfl (k := 0) rfl rfl rfl) ?_
    | refine DRW.q_on rfl rfl rfl rfl hk53 rfl (FSt.loadN (vs := [_, _, _, _]) ag40 ti40 rfl (k := 1) rfl rfl rfl) ?_
    | refine DRW.q_on rfl rfl rfl rfl hk53 rfl (FSt.loadN (vs := [_, _, _, _]) ag40 ti40 rfl (k := 2) rfl rfl rfl) ?_
  refine DRW.q_on rfl rfl rfl rfl hk53 rfl (fun w' hF => runs_move rfl) ?_
  refine DRW.q_on rfl rfl rfl rfl hk53 rfl (fun w' hF => runs_move rfl) ?_
  refine DRW.q_on rfl rfl rfl rfl hk53 rfl (fun w' hF => runs_move rfl) ?_
  refine DRW.q_on rfl rfl rfl rfl hk53 rfl (fun w' hF => runs_move rfl) ?_
  refine DRW.call_on rfl rfl rfl rfl hk53 rfl call18 rfl rfl (to_spec hst code hv body false) ?_
  rintro e w ⟨I14, hI14, rfl, hstn⟩
  clear hst
  have hst := hstn
  clear hstn
  replace hM := hM.mono hI14
  replace hv := hv.mono hI14
  replace hvl := hvl.mono hI14
  replace h5 := h5.mono hI14
  replace hMt := hMt.mono hI14
  replace h7 := h7.mono hI14
  replace hO := hO.mono hI14
  replace hle := hle.trans hI14
  refine ⟨_, rfl, FSt.of hst (((((hI9.trans hI10).trans hI11).trans hI12).trans hI13).trans hI14) (by first | exact (List.sublist_cons_self _ _).trans (List.sublist_append_right _ _) | exact List.Sublist.refl _ | exact List.sublist_cons_self _ _ | exact List.sublist_append_right _ _ | exact (List.sublist_cons_self _ _).trans (List.sublist_cons_self _ _) | exact (List.sublist_append_right _ _).trans (List.sublist_cons_self _ _) | simp), ?_⟩
  refine DRW.call_on rfl rfl rfl rfl hk53 rfl call13 rfl rfl (pre_spec hst hM hv hok code body false hvl hhb (strOf oo) (strOf mm) (by rw [strOfZ]; omega) creds) ?_
  rintro e w ⟨I15, hI15, rfl, hstn⟩
  clear hst
  have hst := hstn
  clear hstn
  obtain ⟨p3, hp3e⟩ : ∃ b, decide (PreR code hs0 (strOf oo).toList creds (strOf mm).toList hh) = b := ⟨_, rfl⟩
  rw [hp3e]
  replace hM := hM.mono hI15
  replace hv := hv.mono hI15
  replace hvl := hvl.mono hI15
  replace h5 := h5.mono hI15
  replace hMt := hMt.mono hI15
  replace h7 := h7.mono hI15
  replace hO := hO.mono hI15
  replace hle := hle.trans hI15
  refine ⟨_, rfl, FSt.of hst ((((((hI9.trans hI10).trans hI11).trans hI12).trans hI13).trans hI14).trans hI15) (by first | exact (List.sublist_cons_self _ _).trans (List.sublist_append_right _ _) | exact List.Sublist.refl _ | exact List.sublist_cons_self _ _ | exact List.sublist_append_right _ _ | exact (List.sublist_cons_self _ _).trans (List.sublist_cons_self _ _) | exact (List.sublist_append_right _ _).trans (List.sublist_cons_self _ _) | simp), ?_⟩
  refine DRW.call_on rfl rfl rfl rfl hk53 rfl call20 rfl rfl (refPre_spec hst hv hok code body false hvl hhb (strOf oo) (strOf mm) (by rw [strOfZ]; omega) creds) ?_
  rintro e w ⟨I16, hI16, rfl, hstn⟩
  clear hst
  have hst := hstn
  clear hstn
  rw [hp3e]
  replace hM := hM.mono hI16
  replace hv := hv.mono hI16
  replace hvl := hvl.mono hI16
  replace h5 := h5.mono hI16
  replace hMt := hMt.mono hI16
  replace h7 := h7.mono hI16
  replace hO := hO.mono hI16
  replace hle := hle.trans hI16
  refine ⟨_, rfl, FSt.of hst (((((((hI9.trans hI10).trans hI11).trans hI12).trans hI13).trans hI14).trans hI15).trans hI16) (by first | exact (List.sublist_cons_self _ _).trans (List.sublist_append_right _ _) | exact List.Sublist.refl _ | exact List.sublist_cons_self _ _ | exact List.sublist_append_right _ _ | exact (List.sublist_cons_self _ _).trans (List.sublist_cons_self _ _) | exact (List.sublist_append_right _ _).trans (List.sublist_cons_self _ _) | simp), ?_⟩
  refine DRW.q_on rfl rfl rfl rfl hk53 rfl (fun w' hF => runs_eqB Tryd.underlying4 rfl rfl) ?_
  refine DRW.q rfl rfl (fun w' hF => runs_pick_true rfl hk53 rfl) ?_
  refine DRW.q rfl rfl (fun w' hF => runs_move rfl) ?_
  have hk69 := (beq_self_eq_true p3)
  refine DRW.q_on rfl rfl rfl rfl hk69 rfl (fun w' hF => runs_move rfl) ?_
  refine DRW.q_on rfl rfl rfl rfl hk69 rfl (fun w' hF => runs_move rfl) ?_
  refine DRW.call_on rfl rfl rfl rfl hk69 rfl call10 rfl rfl (list_spec hst hM s (by omega)) ?_
  rintro e w ⟨I17, v71, hI17, rfl, hr1, hstn⟩
  clear hst
  have hst := hstn
  clear hstn
  replace hM := hM.mono hI17
  replace hv := hv.mono hI17
  replace hvl := hvl.mono hI17
  replace h5 := h5.mono hI17
  replace hMt := hMt.mono hI17
  replace h7 := h7.mono hI17
  replace hO := hO.mono hI17
  replace hle := hle.trans hI17
  refine ⟨_, rfl, FSt.of hst ((((((((hI9.trans hI10).trans hI11).trans hI12).trans hI13).trans hI14).trans hI15).trans hI16).trans hI17) (by first | exact (List.sublist_cons_self _ _).trans (List.sublist_append_right _ _) | exact List.Sublist.refl _ | exact List.sublist_cons_self _ _ | exact List.sublist_append_right _ _ | exact (List.sublist_cons_self _ _).trans (List.sublist_cons_self _ _) | exact (List.sublist_append_right _ _).trans (List.sublist_cons_self _ _) | simp), ?_⟩
  refine DRW.call_on rfl rfl rfl rfl hk69 rfl call21 rfl rfl (refList_spec hst s (by omega)) ?_
  rintro e w ⟨I18, v73, hI18, rfl, hr2, hstn⟩
  clear hst
  have hst := hstn
  clear hstn
  replace hM := hM.mono hI18
  replace hv := hv.mono hI18
  replace hvl := hvl.mono hI18
  replace h5 := h5.mono hI18
  replace hMt := hMt.mono hI18
  replace h7 := h7.mono hI18
  replace hO := hO.mono hI18
  replace hr1 := hr1.mono hI18
  replace hle := hle.trans hI18
  refine ⟨_, rfl, FSt.of hst (((((((((hI9.trans hI10).trans hI11).trans hI12).trans hI13).trans hI14).trans hI15).trans hI16).trans hI17).trans hI18) (by first | exact (List.sublist_cons_self _ _).trans (List.sublist_append_right _ _) | exact List.Sublist.refl _ | exact List.sublist_cons_self _ _ | exact List.sublist_append_right _ _ | exact (List.sublist_cons_self _ _).trans (List.sublist_cons_self _ _) | exact (List.sublist_append_right _ _).trans (List.sublist_cons_self _ _) | simp), ?_⟩
  refine DRW.call_on rfl rfl rfl rfl hk69 rfl call9 rfl rfl (sameS_spec hst hr1 hr2 (by rw [List.length_map]; omega)) ?_
  rintro e w ⟨rfl, hstn⟩
  clear hst
  have hst := hstn
  clear hstn
  refine ⟨_, rfl, FSt.of hst (((((((((hI9.trans hI10).trans hI11).trans hI12).trans hI13).trans hI14).trans hI15).trans hI16).trans hI17).trans hI18) (by first | exact (List.sublist_cons_self _ _).trans (List.sublist_append_right _ _) | exact List.Sublist.refl _ | exact List.sublist_cons_self _ _ | exact List.sublist_append_right _ _ | exact (List.sublist_cons_self _ _).trans (List.sublist_cons_self _ _) | exact (List.sublist_append_right _ _).trans (List.sublist_cons_self _ _) | simp), ?_⟩
  refine DRW.q rfl rfl (fun w' hF => runs_pick_true rfl hk69 rfl) ?_
  refine DRW.q rfl rfl (fun w' hF => runs_move rfl) ?_
  have hk76 := (show true = true from rfl)
  refine DRW.q_on rfl rfl rfl rfl hk76 rfl (fun w' hF => runs_move rfl) ?_
  refine DRW.q_on rfl rfl rfl rfl hk76 rfl (fun w' hF => runs_addS rfl rfl (by show s.size + 8 ≤ 9223372036854775807; omega)) ?_
  refine DRW.q_on rfl rfl rfl rfl hk76 rfl (fun w' hF => runs_move rfl) ?_
  refine DRW.q_on rfl rfl rfl rfl hk76 rfl (fun w' hF => runs_addS rfl rfl (by rw [ByteArray.size_append]; show s.size + 8 + s.size ≤ 9223372036854775807; omega)) ?_
  refine DRW.q_on rfl rfl rfl rfl hk76 rfl (fun w' hF => runs_move rfl) ?_
  refine DRW.q_on rfl rfl rfl rfl hk76 rfl (fun w' hF => runs_addS rfl rfl (by show s.size + 8 ≤ 9223372036854775807; omega)) ?_
  refine DRW.q_on rfl rfl rfl rfl hk76 rfl (fun w' hF => runs_move rfl) ?_
  refine DRW.q_on rfl rfl rfl rfl hk76 rfl (fun w' hF => runs_addS rfl rfl (by rw [ByteArray.size_append]; show s.size + 8 + s.size ≤ 9223372036854775807; omega)) ?_
  refine DRW.call_on rfl rfl rfl rfl hk76 rfl call10 rfl rfl (list_spec hst hM _ hs2) ?_
  rintro e w ⟨I20, v81, hI20, rfl, hr3, hstn⟩
  clear hst
  have hst := hstn
  clear hstn
  replace hM := hM.mono hI20
  replace hv := hv.mono hI20
  replace hvl := hvl.mono hI20
  replace h5 := h5.mono hI20
  replace hMt := hMt.mono hI20
  replace h7 := h7.mono hI20
  replace hO := hO.mono hI20
  replace hr1 := hr1.mono hI20
  replace hr2 := hr2.mono hI20
  replace hle := hle.trans hI20
  refine ⟨_, rfl, FSt.of hst ((((((((((hI9.trans hI10).trans hI11).trans hI12).trans hI13).trans hI14).trans hI15).trans hI16).trans hI17).trans hI18).trans hI20) (by first | exact (List.sublist_cons_self _ _).trans (List.sublist_append_right _ _) | exact List.Sublist.refl _ | exact List.sublist_cons_self _ _ | exact List.sublist_append_right _ _ | exact (List.sublist_cons_self _ _).trans (List.sublist_cons_self _ _) | exact (List.sublist_append_right _ _).trans (List.sublist_cons_self _ _) | simp), ?_⟩
  refine DRW.call_on rfl rfl rfl rfl hk76 rfl call21 rfl rfl (refList_spec hst _ hs2) ?_
  rintro e w ⟨I21, v86, hI21, rfl, hr4, hstn⟩
  clear hst
  have hst := hstn
  clear hstn
  replace hM := hM.mono hI21
  replace hv := hv.mono hI21
  replace hvl := hvl.mono hI21
  replace h5 := h5.mono hI21
  replace hMt := hMt.mono hI21
  replace h7 := h7.mono hI21
  replace hO := hO.mono hI21
  replace hr1 := hr1.mono hI21
  replace hr2 := hr2.mono hI21
  replace hr3 := hr3.mono hI21
  replace hle := hle.trans hI21
  refine ⟨_, rfl, FSt.of hst (((((((((((hI9.trans hI10).trans hI11).trans hI12).trans hI13).trans hI14).trans hI15).trans hI16).trans hI17).trans hI18).trans hI20).trans hI21) (by first | exact (List.sublist_cons_self _ _).trans (List.sublist_append_right _ _) | exact List.Sublist.refl _ | exact List.sublist_cons_self _ _ | exact List.sublist_append_right _ _ | exact (List.sublist_cons_self _ _).trans (List.sublist_cons_self _ _) | exact (List.sublist_append_right _ _).trans (List.sublist_cons_self _ _) | simp), ?_⟩
  refine DRW.call_on rfl rfl rfl rfl hk76 rfl call9 rfl rfl (sameS_spec hst hr3 hr4 (by rw [List.length_map]; omega)) ?_
  rintro e w ⟨rfl, hstn⟩
  clear hst
  have hst := hstn
  clear hstn
  refine ⟨_, rfl, FSt.of hst (((((((((((hI9.trans hI10).trans hI11).trans hI12).trans hI13).trans hI14).trans hI15).trans hI16).trans hI17).trans hI18).trans hI20).trans hI21) (by first | exact (List.sublist_cons_self _ _).trans (List.sublist_append_right _ _) | exact List.Sublist.refl _ | exact List.sublist_cons_self _ _ | exact List.sublist_append_right _ _ | exact (List.sublist_cons_self _ _).trans (List.sublist_cons_self _ _) | exact (List.sublist_append_right _ _).trans (List.sublist_cons_self _ _) | simp), ?_⟩
  refine DRW.q rfl rfl (fun w' hF => runs_pick_true rfl hk76 rfl) ?_
  refine DRW.q rfl rfl (fun w' hF => runs_move rfl) ?_
  have hk89 := (show true = true from rfl)
  refine DRW.call_on rfl rfl rfl rfl hk89 rfl call11 rfl rfl (wakes13_spec hst hM) ?_
  rintro e w ⟨rfl, I23, hI23, hstn⟩
  clear hst
  have hst := hstn
  clear hstn
  replace hM := hM.mono hI23
  replace hv := hv.mono hI23
  replace hvl := hvl.mono hI23
  replace h5 := h5.mono hI23
  replace hMt := hMt.mono hI23
  replace h7 := h7.mono hI23
  replace hO := hO.mono hI23
  replace hr1 := hr1.mono hI23
  replace hr2 := hr2.mono hI23
  replace hr3 := hr3.mono hI23
  replace hr4 := hr4.mono hI23
  replace hle := hle.trans hI23
  refine ⟨_, rfl, FSt.of hst ((((((((((((hI9.trans hI10).trans hI11).trans hI12).trans hI13).trans hI14).trans hI15).trans hI16).trans hI17).trans hI18).trans hI20).trans hI21).trans hI23) (by first | exact (List.sublist_cons_self _ _).trans (List.sublist_append_right _ _) | exact List.Sublist.refl _ | exact List.sublist_cons_self _ _ | exact List.sublist_append_right _ _ | exact (List.sublist_cons_self _ _).trans (List.sublist_cons_self _ _) | exact (List.sublist_append_right _ _).trans (List.sublist_cons_self _ _) | simp), ?_⟩
  refine DRW.q rfl rfl (fun w' hF => runs_pick_true rfl hk89 rfl) ?_
  refine DRW.q rfl rfl (fun w' hF => runs_assign rfl) ?_
  refine DRW.done ?_
  refine AQ.next ?_
  refine CW.ret ?_
  refine AQ.ret1 rfl rfl ?_
  exact ⟨rfl, _, hle, hst.drop1⟩
end Go.Proofs.YtfdgnjbbchkgpaaDoorX
