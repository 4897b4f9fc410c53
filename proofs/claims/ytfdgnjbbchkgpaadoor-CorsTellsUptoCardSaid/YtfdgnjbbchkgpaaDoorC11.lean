/- Who may ask further may read; who asks plainly needs no list. -/
import Derived.Test.YtfdgnjbbchkgpaaDoorT
import Derived.Test.YtfdgnjbbchkgpaaDoorC10
namespace Go.Proofs.YtfdgnjbbchkgpaaDoorX
set_option linter.unusedVariables false
set_option linter.unusedSimpArgs false
open Go Go.RowKit Go.Proofs

theorem check_off {hs : List HRow} {o : List UInt8} (h : CheckR hs o true) : CheckR hs o false := by
  unfold CheckR fromR at *
  obtain ⟨⟨h1, h2⟩, _⟩ := h
  refine ⟨⟨h1, ?_⟩, .inl rfl⟩
  rcases h2 with h2 | ⟨_, h2⟩
  · exact .inl h2
  · cases h2
theorem pre_plain {code : Int} {hs : List HRow} {o : List UInt8} {creds : Bool} {m : List UInt8} {l : List HRow} (h : CheckR hs o creds) (hp : plainL m l = true) (h1 : 200 ≤ code) (h2 : code < 300) : PreR code hs o creds m l := by
  unfold plainL at hp
  rw [Bool.and_eq_true, decide_eq_true_eq] at hp
  exact ⟨⟨h1, by omega, h⟩, .inl hp.1, by rw [hp.2]; intro n hn; cases hn⟩
def starHl : List HL := [([65, 108, 108, 111, 119, 45, 79, 114, 105, 103, 105, 110], [42]), (acredL, trueL), (methL, [42]), (ahdsL, [42])]
def orgL : List (List UInt8) := [ohL, [104, 116, 116, 112, 58, 47, 47, 99, 46, 100], [110, 117, 108, 108]]
def mth4 : List (List UInt8) := [getL, postL, [80, 85, 84], [68, 69, 76, 69, 84, 69]]
def ownHl (o : List UInt8) : List HL := [(allowOL, o), (acredL, trueL)]
theorem star_m : partsL (getB methL starHl).1 = [[42]] := by decide +kernel
theorem star_h : partsL (getB ahdsL starHl).1 = [[42]] := by decide +kernel
theorem org_all : ∀ j, j < 3 → CheckB starHl (orgL.getD j []) true = false ∧ CheckB starHl (orgL.getD j []) false = true ∧ CheckB (ownHl (orgL.getD j [])) (orgL.getD j []) true = true ∧ CheckB (ownHl (orgL.getD j [])) (orgL.getD j [] ++ [120]) true = false ∧ PreB 204 (ownHl (orgL.getD j [])) (orgL.getD j []) true postL [] = true ∧ PreB 204 (ownHl (orgL.getD j [])) (orgL.getD j []) true [80, 85, 84] [] = false ∧ (orgL.getD j []).length ≤ 100 := by decide +kernel
theorem mth4_len : ∀ j, j < 4 → (mth4.getD j []).length ≤ 100 := by decide
theorem checkS {hl : List HL} {o : List UInt8} {creds b : Bool} (h : CheckB hl o creds = b) : decide (CheckR (hl.map hrowC) (strOf o).toList creds) = b := by rw [strOf_toList, check_dec, h]
theorem preS2 {hl : List HL} {o m : List UInt8} {creds b : Bool} {code : Int} (ll : List HL) (h : PreB code hl o creds m ll = b) : decide (PreR code (hl.map hrowC) (strOf o).toList creds (strOf m).toList (ll.map hrowC)) = b := by rw [strOf_toList, strOf_toList, pre_dec, h]
theorem star_pre {o : List UInt8} (h : CheckB starHl o false = true) (m : List UInt8) (l : List HRow) : PreR 200 (starHl.map hrowC) o false m l := by
  refine ⟨⟨by decide, by decide, (check_map _ _ _).2 h⟩, .inr ((allows_map _ _ _ _).2 ?_), fun n _ => (allows_map _ _ _ _).2 ?_⟩
  · unfold AllowsB
    rw [k3, star_m]
    exact decide_eq_true (.inr ⟨rfl, by decide⟩)
  · unfold AllowsB
    rw [k4, star_h]
    exact decide_eq_true (.inr ⟨rfl, by decide⟩)
theorem own_hb {o : List UInt8} (h : o.length ≤ 100) : HB ((ownHl o).map hrowC) := HB.ofC (by show 2 ≤ 1000; decide) (by
  intro r hr
  simp only [ownHl, List.mem_cons, List.not_mem_nil, or_false] at hr
  rcases hr with rfl | rfl
  · exact ⟨by show 12 ≤ 1000000; decide, by show o.length ≤ _; omega⟩
  · decide)
theorem star_hb : HB (starHl.map hrowC) := HB.ofC (by decide) (by decide)
theorem two_at : ∀ k, k < 2 → ([Value.bool true, Value.bool false])[((k : Nat) : Int).toNat * 1]? = some (.bool (decide (k = 0)))
  | 0, _ => rfl
  | 1, _ => rfl
  | k + 2, h => by omega
set_option maxRecDepth 100000 in
set_option maxHeartbeats 8000000 in
theorem claws_spec {w0 w : World} {I : Imm} {L : Own} (hst : St w0 w I L) (hM : MaxK I) (n m : Int) (hn : i64ok n) (hm : i64ok m) {vi : Value} {ls : List Int} (hl : RdI I vi ls) (hls : ∀ x ∈ ls, i64ok x) (hll : ls.length ≤ 9223372036854775807) (which : Int) (hwhich : i64ok which) :
    Calls Tryd.prog 6 #[.int .i64 n, .int .i64 m, vi, .int .i64 which] w fun e w' => e = .returned (.bool true) ∧ ∃ I', I.le I' ∧ St w0 w' I' L := by
  refine enter Tryd.func6 rfl (N := 151) rfl rfl ?_
  simp only [List.zipIdx_cons, List.zipIdx_nil, List.map_cons, List.map_nil, Nat.zero_add, Nat.reduceAdd]
  have hle := Imm.le.refl I
  refine CW.seq ?_
  -- region 0
  refine CW.region ?_
  refine RW.op1 rfl (runs_assign rfl) ?_
  refine RW.done ?_
  refine AQ.next ?_
  refine CW.seq ?_
  -- region 1
  refine CW.region ?_
  refine RW.op1 rfl (runs_move rfl) ?_
  refine RW.op1 rfl (runs_move rfl) ?_
  refine RW.call rfl call15 rfl rfl (reply_spec hst n hn hl hls hll ⟨#[]⟩) ?_
  rintro e w ⟨I1, vh, code, hs, body, hI1, rfl, hstn, hv, hmd⟩
  clear hst
  have hst := hstn
  clear hstn
  have hok := hmd.hb
  obtain ⟨hA, hcap, rfl⟩ : ∃ A c, vh = .slice A hs.length c := by obtain ⟨_, _, A, c, e, _⟩ := hv; exact ⟨A, c, e⟩
  replace hM := hM.mono hI1
  replace hle := hle.trans hI1
  refine ⟨_, rfl, ?_⟩
  refine RW.call rfl call18 rfl rfl (to_spec hst code hv body false) ?_
  rintro e w ⟨I2, hI2, rfl, hstn⟩
  clear hst
  have hst := hstn
  clear hstn
  replace hM := hM.mono hI2
  replace hv := hv.mono hI2
  replace hle := hle.trans hI2
  refine ⟨_, rfl, ?_⟩
  refine RW.opE rfl (runs_alloc ti35 hst) ?_
  rintro _ w ⟨b3, rfl, hstn⟩
  clear hst
  have hst := hstn
  clear hstn
  first
    | refine RW.opE0 (runs_storeW ti35 rfl rfl hst (k := 0) rfl rfl rfl (NoFz.zero _) rfl) ?_
    | refine RW.opE0 (runs_storeP ti35 rfl rfl hst (k := 0) rfl rfl rfl (NoFz.zero _) rfl) ?_
    | refine RW.opE0 (runs_storeW ti35 rfl rfl hst (k := 1) rfl rfl rfl (NoFz.zero _) rfl) ?_
    | refine RW.opE0 (runs_storeP ti35 rfl rfl hst (k := 1) rfl rfl rfl (NoFz.zero _) rfl) ?_
    | refine RW.opE0 (runs_storeW ti35 rfl rfl hst (k := 2) rfl rfl rfl (NoFz.zero _) rfl) ?_
    | refine RW.opE0 (runs_storeP ti35 rfl rfl hst (k := 2) rfl rfl rfl (NoFz.zero _) rfl) ?_
  rintro w hstn
  clear hst
  have hst := hstn
  clear hstn
  try simp only [List.set_cons_zero, List.set_cons_succ] at hst
  refine RW.done ?_
  refine AQ.next ?_
  refine CW.seq ?_
  -- region 2
  refine CW.region ?_
  refine RW.op1 rfl (runs_move rfl) ?_
  refine RW.call rfl call16 rfl rfl (heads_spec hst m hm ⟨#[]⟩) ?_
  rintro e w ⟨I5, vl2, hh, hI5, rfl, hstn, hvl, hhm⟩
  clear hst
  have hst := hstn
  clear hstn
  have hhb := hhm.hb (by decide)
  replace hM := hM.mono hI5
  replace hv := hv.mono hI5
  replace hle := hle.trans hI5
  refine ⟨_, rfl, ?_⟩
  refine RW.op1 rfl (runs_assign rfl) ?_
  refine RW.done ?_
  refine AQ.next ?_
  refine CW.seq ?_
  -- region 3
  refine CW.region ?_
  refine RW.opE rfl (runs_lit1R Tryd.underlying23 ti9 (by decide) rfl rfl rfl (by simp [Value.oneCell']) hst) ?_
  rintro u6 w ⟨I6, hI6, hstn, h6⟩
  clear hst
  have hst := hstn
  clear hstn
  replace hM := hM.mono hI6
  replace hv := hv.mono hI6
  replace hvl := hvl.mono hI6
  replace hle := hle.trans hI6
  have hO : RdS _ u6 (orgL.map strOf) := h6
  refine RW.op1 rfl (runs_move rfl) ?_
  refine RW.call rfl call8 rfl rfl (within_spec hst (v := which) (n := 3) (hwhich) (by unfold i64ok; decide)) ?_
  rintro e w ⟨rfl, hstn⟩
  clear hst
  have hst := hstn
  clear hstn
  have qjo := within_range which 3
  have qjot := qjo.2 (by decide)
  obtain ⟨jo, hjo⟩ : ∃ j : Nat, within which 3 = (j : Int) := ⟨(within which 3).toNat, by omega⟩
  rw [hjo] at qjo qjot ⊢
  have jol : jo < 3 := by omega
  have esjo := sat_at orgL jo
  obtain ⟨o1, o2, o3, o4, o5, o6, o7⟩ := org_all jo jol
  generalize orgL.getD jo [] = oo at esjo o1 o2 o3 o4 o5 o6 o7
  refine ⟨_, rfl, ?_⟩
  refine RW.op1 rfl (RdL.indexAddr Tryd.underlying23 ti9 (by decide) rfl rfl hO (by show 0 ≤ (jo : Int) ∧ (jo : Int) < 3; omega)) ?_
  refine RW.op1 rfl (runs_load1 sc9 rfl (hst.cell_imm (RdS.at hO (by omega) (by show (jo : Int) < 3; omega)))) ?_
  rw [esjo]
  refine RW.op1 rfl (runs_assign rfl) ?_
  refine RW.done ?_
  refine AQ.next ?_
  refine CW.seq ?_
  -- region 4
  refine CW.region ?_
  refine RW.opE rfl (runs_lit1R Tryd.underlying23 ti9 (by decide) rfl rfl rfl (by simp [Value.oneCell']) hst) ?_
  rintro u8 w ⟨I8, hI8, hstn, h8⟩
  clear hst
  have hst := hstn
  clear hstn
  replace hM := hM.mono hI8
  replace hv := hv.mono hI8
  replace hvl := hvl.mono hI8
  replace h6 := h6.mono hI8
  replace hO := hO.mono hI8
  replace hle := hle.trans hI8
  have hMt : RdS _ u8 (mth4.map strOf) := h8
  refine RW.op1 rfl (runs_move rfl) ?_
  refine RW.call rfl call8 rfl rfl (within_spec hst (v := m) (n := 4) (hm) (by unfold i64ok; decide)) ?_
  rintro e w ⟨rfl, hstn⟩
  clear hst
  have hst := hstn
  clear hstn
  have qjm := within_range m 4
  have qjmt := qjm.2 (by decide)
  obtain ⟨jm, hjm⟩ : ∃ j : Nat, within m 4 = (j : Int) := ⟨(within m 4).toNat, by omega⟩
  rw [hjm] at qjm qjmt ⊢
  have jml : jm < 4 := by omega
  have esjm := sat_at mth4 jm
  have m1 := mth4_len jm jml
  generalize mth4.getD jm [] = mm at esjm m1
  refine ⟨_, rfl, ?_⟩
  refine RW.op1 rfl (RdL.indexAddr Tryd.underlying23 ti9 (by decide) rfl rfl hMt (by show 0 ≤ (jm : Int) ∧ (jm : Int) < 4; omega)) ?_
  refine RW.op1 rfl (runs_load1 sc9 rfl (hst.cell_imm (RdS.at hMt (by omega) (by show (jm : Int) < 4; omega)))) ?_
  rw [esjm]
  refine RW.op1 rfl (runs_assign rfl) ?_
  refine RW.done ?_
  refine AQ.next ?_
  refine CW.seq ?_
  refine CW.seq ?_
  -- region 5
  refine CW.region ?_
  refine RW.opE rfl (runs_lit1R Tryd.underlying48 ti4 (by decide) rfl rfl rfl (by simp [Value.oneCell']) hst) ?_
  rintro u10 w ⟨I10, hI10, hstn, h10⟩
  clear hst
  have hst := hstn
  clear hstn
  replace hM := hM.mono hI10
  replace hv := hv.mono hI10
  replace hvl := hvl.mono hI10
  replace h6 := h6.mono hI10
  replace hO := hO.mono hI10
  replace h8 := h8.mono hI10
  replace hMt := hMt.mono hI10
  replace hle := hle.trans hI10
  have hB : RdL _ 1 u10 2 [Value.bool true, Value.bool false] := h10
  obtain ⟨vB, rfl⟩ : ∃ v, v = u10 := ⟨_, rfl⟩
  refine RW.op1 rfl (RdL.len Tryd.underlying48 rfl hB) ?_
  refine RW.op1 rfl (runs_move rfl) ?_
  refine RW.done ?_
  refine AQ.next ?_
  refine CW.block ?_
  -- loop 1
  refine CW.loop (Nat × Imm) (fun x w => I.le x.2 ∧ MaxK x.2 ∧ RdH x.2 (.slice hA hs.length hcap) hs ∧ RdH x.2 vl2 hh ∧ RdL x.2 1 vB 2 [Value.bool true, Value.bool false] ∧ St w0 w x.2 ((b3, Obj.cells (Value.agg #[.int .i64 code, .slice hA hs.length hcap, .string body, .bool false]).cells 35) :: L) ∧ x.1 ≤ 2) (fun x => [(9, .pointer (some ⟨b3, 0, none⟩)), (10, vl2), (11, .string (strOf oo)), (12, .string (strOf mm)), (35, vB), (36, .int .i64 (2 : Nat)), (37, .int .i64 (x.1 : Nat))]) (fun x => 2 - x.1) ⟨(0, _), ⟨hle, hM, hv, hvl, hB, hst, Nat.zero_le _⟩, ⟨rfl, rfl, rfl, rfl, rfl, rfl, rfl, trivial⟩⟩ ?_
  clear hle hM hv hvl hB
  rintro ⟨k, J⟩ w ⟨hle, hM, hv, hvl, hB, hstn, hk⟩
  dsimp only at hle hM hv hvl hB hstn hk ⊢
  clear hst
  have hst := hstn
  clear hstn
  refine CW.seq ?_
  -- region 6
  refine CW.region ?_
  refine RW.op1 rfl (runs_lss rfl rfl) ?_
  refine RW.done ?_
  refine AQ.next ?_
  refine CW.seq ?_
  refine CW.cond rfl (fun hc38 => ?_) (fun hc38 => ?_)
  · have hcb38 := hc38
    try simp only [decide_eq_true_eq, decide_eq_false_iff_not] at hc38
    have hk1 : k < 2 := by omega
    obtain ⟨cr, hcr⟩ : ∃ c, decide (k = 0) = c := ⟨_, rfl⟩
    have h2a := two_at k hk1
    rw [hcr] at h2a
    refine CW.skip ?_
    refine AQ.next ?_
    refine CW.seq ?_
    refine CW.block ?_
    refine CW.seq ?_
    -- region 7
    refine CW.region ?_
    refine RW.op1 rfl (RdL.indexAddr Tryd.underlying48 ti4 (by decide) rfl rfl hB (by omega)) ?_
    refine RW.op1 rfl (runs_load1 sc4 rfl (hst.cell_imm (RdL.cell hB h2a))) ?_
    refine RW.op1 rfl (runs_assign rfl) ?_
    refine RW.done ?_
    refine AQ.next ?_
    refine CW.seq ?_
    -- region 8
    refine CW.drawSt hst (.q 0 (.q 1 (.q 2 (.q 4 (.q 5 (.q 6 (.q 7 (.q 8 (.l 3 (.l 9 (.q 10 (.q 11 .nil)))))))))))) follows (by kernel_rfl) (fun w hst => ?_)
    refine DRW.q rfl rfl (FSt.loadN (vs := [_, _, _, _]) ag35 ti35 rfl (k := 0) rfl rfl rfl) ?_
    refine DRW.q rfl rfl (fun w' hF => runs_move rfl) ?_
    refine DRW.q rfl rfl (fun w' hF => runs_move rfl) ?_
    refine DRW.q rfl rfl (FSt.loadN (vs := [_, _, _, _]) ag35 ti35 rfl (k := 0) rfl rfl rfl) ?_
    refine DRW.q rfl rfl (fun w' hF => runs_move rfl) ?_
    refine DRW.q rfl rfl (fun w' hF => runs_move rfl) ?_
    refine DRW.q rfl rfl (fun w' hF => runs_move rfl) ?_
    refine DRW.q rfl rfl (fun w' hF => runs_move rfl) ?_
    refine DRW.call rfl rfl call12 rfl rfl (check_spec hst hv hok code body false (strOf oo) cr) ?_
    rintro e w ⟨I11, hI11, rfl, hstn⟩
    clear hst
    have hst := hstn
    clear hstn
    obtain ⟨Mb, hMb⟩ : ∃ b, decide (CheckR hs (strOf oo).toList cr) = b := ⟨_, rfl⟩
    rw [hMb]
    replace hM := hM.mono hI11
    replace hv := hv.mono hI11
    replace hvl := hvl.mono hI11
    replace hB := hB.mono hI11
    replace hle := hle.trans hI11
    refine ⟨_, rfl, FSt.of hst hI11 (by first | exact (List.sublist_cons_self _ _).trans (List.sublist_append_right _ _) | exact List.Sublist.refl _ | exact List.sublist_cons_self _ _ | exact List.sublist_append_right _ _ | exact (List.sublist_cons_self _ _).trans (List.sublist_cons_self _ _) | exact (List.sublist_append_right _ _).trans (List.sublist_cons_self _ _) | simp), ?_⟩
    refine DRW.call rfl rfl call13 rfl rfl (pre_spec hst hM hv hok code body false hvl hhb (strOf oo) (strOf mm) (by rw [strOfZ]; omega) cr) ?_
    rintro e w ⟨I12, hI12, rfl, hstn⟩
    clear hst
    have hst := hstn
    clear hstn
    obtain ⟨Pb, hPb⟩ : ∃ b, decide (PreR code hs (strOf oo).toList cr (strOf mm).toList hh) = b := ⟨_, rfl⟩
    rw [hPb]
    have hPM : Pb = true → Mb = true ∧ 200 ≤ code ∧ code ≤ 299 := fun h => by
      rw [← hPb] at h
      have h2 := (of_decide_eq_true h).1
      exact ⟨by rw [← hMb]; exact decide_eq_true h2.2.2, h2.1, h2.2.1⟩
    have hMP : Mb = true → plainL (strOf mm).toList hh = true → 200 ≤ code → code < 300 → Pb = true := fun h h2 h3 h4 => by
      rw [← hPb]
      rw [← hMb] at h
      exact decide_eq_true (pre_plain (of_decide_eq_true h) h2 h3 h4)
    clear hPb hMb
    replace hM := hM.mono hI12
    replace hv := hv.mono hI12
    replace hvl := hvl.mono hI12
    replace hB := hB.mono hI12
    replace hle := hle.trans hI12
    refine ⟨_, rfl, FSt.of hst (hI11.trans hI12) (by first | exact (List.sublist_cons_self _ _).trans (List.sublist_append_right _ _) | exact List.Sublist.refl _ | exact List.sublist_cons_self _ _ | exact List.sublist_append_right _ _ | exact (List.sublist_cons_self _ _).trans (List.sublist_cons_self _ _) | exact (List.sublist_append_right _ _).trans (List.sublist_cons_self _ _) | simp), ?_⟩
    refine DRW.q rfl rfl (fun w' hF => runs_assign rfl) ?_
    refine DRW.q rfl rfl (fun w' hF => runs_assign rfl) ?_
    refine DRW.done ?_
    refine AQ.next ?_
    refine CW.seq ?_
    refine CW.seq ?_
    -- region 9
    refine CW.cut Imm (fun J w => I.le J ∧ MaxK J ∧ RdH J (.slice hA hs.length hcap) hs ∧ RdH J vl2 hh ∧ RdL J 1 vB 2 [Value.bool true, Value.bool false] ∧ St w0 w J ((b3, Obj.cells (Value.agg #[.int .i64 code, .slice hA hs.length hcap, .string body, .bool false]).cells 35) :: L)) (fun _ => [(9, .pointer (some ⟨b3, 0, none⟩)), (10, vl2), (11, .string (strOf oo)), (12, .string (strOf mm)), (35, vB), (36, .int .i64 (2 : Nat)), (37, .int .i64 (k : Nat)), (15, .bool Mb), (16, .bool Pb), (65, .bool false)]) ?_ ?_
    · -- region 9
      refine CW.region ?_
      refine RW.op1 rfl (runs_move rfl) ?_
      refine RW.op1 rfl (runs_move rfl) ?_
      refine RW.split (t := 52) rfl (fun hb52 => ?_) (fun hb52 => ?_)
      · have hb52p := hb52
        try simp only [decide_eq_true_eq, decide_eq_false_iff_not] at hb52p
        refine RW.on_guard rfl rfl rfl rfl hb52 ?_
        refine RW.op1 rfl (runs_move rfl) ?_
        refine RW.on_guard rfl rfl rfl rfl hb52 ?_
        refine RW.op1 rfl (runs_not rfl) ?_
        refine RW.on_guard rfl rfl rfl rfl hb52 ?_
        refine RW.op1 rfl (runs_move rfl) ?_
        refine RW.split (t := 55) rfl (fun hb55 => ?_) (fun hb55 => ?_)
        · have hb55p := hb55
          try simp only [decide_eq_true_eq, decide_eq_false_iff_not] at hb55p
          refine RW.off_guard rfl rfl rfl rfl hb55 ?_
          refine RW.off_guard rfl rfl rfl rfl hb55 ?_
          refine RW.off_guard rfl rfl rfl rfl hb55 ?_
          refine RW.on_guard rfl rfl rfl rfl hb52 ?_
          refine RW.op1 rfl (runs_pick_true rfl hb55 rfl) ?_
          refine RW.on_guard rfl rfl rfl rfl hb52 ?_
          refine RW.op1 rfl (runs_move rfl) ?_
          refine RW.off_guard rfl rfl rfl rfl rfl ?_
          refine RW.off_guard rfl rfl rfl rfl rfl ?_
          refine RW.off_guard rfl rfl rfl rfl rfl ?_
          refine RW.on_guard rfl rfl rfl rfl hb52 ?_
          refine RW.op1 rfl (runs_pick_true rfl rfl rfl) ?_
          refine RW.op1 rfl (runs_pick_true rfl hb52 rfl) ?_
          refine RW.done ?_
          exact AQ.meet _ ⟨hle, hM, hv, hvl, hB, hst⟩ ⟨rfl, rfl, rfl, rfl, rfl, rfl, rfl, rfl, rfl, congrArg (fun z => some (Value.bool z)) (by first | rfl | (clear hMP hst hv hvl hB hM o1 o2 o3 o4 o5 o6; cases Pb <;> cases Mb <;> simp_all <;> omega)), trivial⟩
        · have hb55p := hb55
          try simp only [decide_eq_true_eq, decide_eq_false_iff_not] at hb55p
          refine RW.on_guard rfl rfl rfl rfl hb55 ?_
          first
            | refine RW.op1 rfl (runs_fieldAddr0 rfl Tryd.underlying35 rfl ti3 (by decide)) ?_
            | refine RW.op1 rfl (runs_fieldAddr rfl Tryd.underlying35 rfl ti3 (by decide)) ?_
          refine RW.on_guard rfl rfl rfl rfl hb55 ?_
          first
            | refine RW.op1 rfl (runs_load1 sc3 rfl (hst.cell_own (k := 0) rfl rfl)) ?_
            | refine RW.op1 rfl (runs_load1 sc3 rfl (hst.cell_own (k := 1) rfl rfl)) ?_
            | refine RW.op1 rfl (runs_load1 sc3 rfl (hst.cell_own (k := 2) rfl rfl)) ?_
          refine RW.on_guard rfl rfl rfl rfl hb55 ?_
          refine RW.op1 rfl (runs_lss rfl rfl) ?_
          refine RW.on_guard rfl rfl rfl rfl hb52 ?_
          refine RW.op1 rfl (runs_pick_false rfl hb55 rfl) ?_
          refine RW.on_guard rfl rfl rfl rfl hb52 ?_
          refine RW.op1 rfl (runs_move rfl) ?_
          refine RW.split (t := 60) rfl (fun hb60 => ?_) (fun hb60 => ?_)
          · have hb60p := hb60
            try simp only [decide_eq_true_eq, decide_eq_false_iff_not] at hb60p
            refine RW.off_guard rfl rfl rfl rfl hb60 ?_
            refine RW.off_guard rfl rfl rfl rfl hb60 ?_
            refine RW.off_guard rfl rfl rfl rfl hb60 ?_
            refine RW.on_guard rfl rfl rfl rfl hb52 ?_
            refine RW.op1 rfl (runs_pick_true rfl hb60 rfl) ?_
            refine RW.op1 rfl (runs_pick_true rfl hb52 rfl) ?_
            refine RW.done ?_
            exact AQ.meet _ ⟨hle, hM, hv, hvl, hB, hst⟩ ⟨rfl, rfl, rfl, rfl, rfl, rfl, rfl, rfl, rfl, congrArg (fun z => some (Value.bool z)) (by first | rfl | (clear hMP hst hv hvl hB hM o1 o2 o3 o4 o5 o6; cases Pb <;> cases Mb <;> simp_all <;> omega)), trivial⟩
          · have hb60p := hb60
            try simp only [decide_eq_true_eq, decide_eq_false_iff_not] at hb60p
            refine RW.on_guard rfl rfl rfl rfl hb60 ?_
            first
              | refine RW.op1 rfl (runs_fieldAddr0 rfl Tryd.underlying35 rfl ti3 (by decide)) ?_
              | refine RW.op1 rfl (runs_fieldAddr rfl Tryd.underlying35 rfl ti3 (by decide)) ?_
            refine RW.on_guard rfl rfl rfl rfl hb60 ?_
            first
              | refine RW.op1 rfl (runs_load1 sc3 rfl (hst.cell_own (k := 0) rfl rfl)) ?_
              | refine RW.op1 rfl (runs_load1 sc3 rfl (hst.cell_own (k := 1) rfl rfl)) ?_
              | refine RW.op1 rfl (runs_load1 sc3 rfl (hst.cell_own (k := 2) rfl rfl)) ?_
            refine RW.on_guard rfl rfl rfl rfl hb60 ?_
            refine RW.op1 rfl (runs_gtr rfl rfl) ?_
            refine RW.on_guard rfl rfl rfl rfl hb52 ?_
            refine RW.op1 rfl (runs_pick_false rfl hb60 rfl) ?_
            refine RW.op1 rfl (runs_pick_true rfl hb52 rfl) ?_
            refine RW.done ?_
            exact AQ.meet _ ⟨hle, hM, hv, hvl, hB, hst⟩ ⟨rfl, rfl, rfl, rfl, rfl, rfl, rfl, rfl, rfl, congrArg (fun z => some (Value.bool z)) (by first | rfl | (clear hMP hst hv hvl hB hM o1 o2 o3 o4 o5 o6; cases Pb <;> cases Mb <;> simp_all <;> omega)), trivial⟩
      · have hb52p := hb52
        try simp only [decide_eq_true_eq, decide_eq_false_iff_not] at hb52p
        refine RW.off_guard rfl rfl rfl rfl hb52 ?_
        refine RW.off_guard rfl rfl rfl rfl hb52 ?_
        refine RW.off_guard rfl rfl rfl rfl hb52 ?_
        refine RW.off_undef rfl rfl rfl rfl ?_
        refine RW.off_undef rfl rfl rfl rfl ?_
        refine RW.off_undef rfl rfl rfl rfl ?_
        refine RW.off_guard rfl rfl rfl rfl hb52 ?_
        refine RW.off_guard rfl rfl rfl rfl hb52 ?_
        refine RW.off_undef rfl rfl rfl rfl ?_
        refine RW.off_undef rfl rfl rfl rfl ?_
        refine RW.off_undef rfl rfl rfl rfl ?_
        refine RW.off_guard rfl rfl rfl rfl hb52 ?_
        refine RW.op1 rfl (runs_pick_false rfl hb52 rfl) ?_
        refine RW.done ?_
        exact AQ.meet _ ⟨hle, hM, hv, hvl, hB, hst⟩ ⟨rfl, rfl, rfl, rfl, rfl, rfl, rfl, rfl, rfl, congrArg (fun z => some (Value.bool z)) (by first | rfl | (clear hMP hst hv hvl hB hM o1 o2 o3 o4 o5 o6; cases Pb <;> cases Mb <;> simp_all <;> omega)), trivial⟩
    · clear hle hM hv hvl hB hst
      rintro J65 w ⟨hle, hM, hv, hvl, hB, hst⟩
      refine AQ.next ?_
      refine CW.cond rfl (fun hc => absurd hc (by decide)) (fun hc => ?_)
      refine CW.skip ?_
      refine AQ.next ?_
      refine CW.seq ?_
      -- region 11
      refine CW.cut Imm (fun J w => I.le J ∧ MaxK J ∧ RdH J (.slice hA hs.length hcap) hs ∧ RdH J vl2 hh ∧ RdL J 1 vB 2 [Value.bool true, Value.bool false] ∧ St w0 w J ((b3, Obj.cells (Value.agg #[.int .i64 code, .slice hA hs.length hcap, .string body, .bool false]).cells 35) :: L)) (fun _ => [(9, .pointer (some ⟨b3, 0, none⟩)), (10, vl2), (11, .string (strOf oo)), (12, .string (strOf mm)), (35, vB), (36, .int .i64 (2 : Nat)), (37, .int .i64 (k : Nat)), (85, .bool false)]) ?_ ?_
      · -- region 11
        refine CW.region ?_
        refine RW.op1 rfl (runs_move rfl) ?_
        refine RW.op1 rfl (runs_move rfl) ?_
        refine RW.split (t := 67) rfl (fun hb67 => ?_) (fun hb67 => ?_)
        · have hb67p := hb67
          try simp only [decide_eq_true_eq, decide_eq_false_iff_not] at hb67p
          refine RW.on_guard rfl rfl rfl rfl hb67 ?_
          refine RW.op1 rfl (runs_move rfl) ?_
          refine RW.on_guard rfl rfl rfl rfl hb67 ?_
          refine RW.op1 rfl (runs_move rfl) ?_
          refine RW.on_guard rfl rfl rfl rfl hb67 ?_
          refine RW.call rfl call14 rfl rfl (plain_spec hst hM hvl hhb (strOf mm)) ?_
          rintro e w ⟨I13, hI13, rfl, hstn⟩
          clear hst
          have hst := hstn
          clear hstn
          obtain ⟨Pl, hPl⟩ : ∃ b, plainL (strOf mm).toList hh = b := ⟨_, rfl⟩
          rw [hPl] at hMP ⊢
          replace hM := hM.mono hI13
          replace hv := hv.mono hI13
          replace hvl := hvl.mono hI13
          replace hB := hB.mono hI13
          replace hle := hle.trans hI13
          refine ⟨_, rfl, ?_⟩
          refine RW.op1 rfl (runs_pick_true rfl hb67 rfl) ?_
          refine RW.op1 rfl (runs_move rfl) ?_
          refine RW.split (t := 72) rfl (fun hb72 => ?_) (fun hb72 => ?_)
          · have hb72p := hb72
            try simp only [decide_eq_true_eq, decide_eq_false_iff_not] at hb72p
            refine RW.on_guard rfl rfl rfl rfl hb72 ?_
            first
              | refine RW.op1 rfl (runs_fieldAddr0 rfl Tryd.underlying35 rfl ti3 (by decide)) ?_
              | refine RW.op1 rfl (runs_fieldAddr rfl Tryd.underlying35 rfl ti3 (by decide)) ?_
            refine RW.on_guard rfl rfl rfl rfl hb72 ?_
            first
              | refine RW.op1 rfl (runs_load1 sc3 rfl (hst.cell_own (k := 0) rfl rfl)) ?_
              | refine RW.op1 rfl (runs_load1 sc3 rfl (hst.cell_own (k := 1) rfl rfl)) ?_
              | refine RW.op1 rfl (runs_load1 sc3 rfl (hst.cell_own (k := 2) rfl rfl)) ?_
            refine RW.on_guard rfl rfl rfl rfl hb72 ?_
            refine RW.op1 rfl (runs_geq rfl rfl) ?_
            refine RW.op1 rfl (runs_pick_true rfl hb72 rfl) ?_
            refine RW.op1 rfl (runs_move rfl) ?_
            refine RW.split (t := 77) rfl (fun hb77 => ?_) (fun hb77 => ?_)
            · have hb77p := hb77
              try simp only [decide_eq_true_eq, decide_eq_false_iff_not] at hb77p
              refine RW.on_guard rfl rfl rfl rfl hb77 ?_
              first
                | refine RW.op1 rfl (runs_fieldAddr0 rfl Tryd.underlying35 rfl ti3 (by decide)) ?_
                | refine RW.op1 rfl (runs_fieldAddr rfl Tryd.underlying35 rfl ti3 (by decide)) ?_
              refine RW.on_guard rfl rfl rfl rfl hb77 ?_
              first
                | refine RW.op1 rfl (runs_load1 sc3 rfl (hst.cell_own (k := 0) rfl rfl)) ?_
                | refine RW.op1 rfl (runs_load1 sc3 rfl (hst.cell_own (k := 1) rfl rfl)) ?_
                | refine RW.op1 rfl (runs_load1 sc3 rfl (hst.cell_own (k := 2) rfl rfl)) ?_
              refine RW.on_guard rfl rfl rfl rfl hb77 ?_
              refine RW.op1 rfl (runs_lss rfl rfl) ?_
              refine RW.op1 rfl (runs_pick_true rfl hb77 rfl) ?_
              refine RW.op1 rfl (runs_move rfl) ?_
              refine RW.split (t := 82) rfl (fun hb82 => ?_) (fun hb82 => ?_)
              · have hb82p := hb82
                try simp only [decide_eq_true_eq, decide_eq_false_iff_not] at hb82p
                refine RW.on_guard rfl rfl rfl rfl hb82 ?_
                refine RW.op1 rfl (runs_move rfl) ?_
                refine RW.on_guard rfl rfl rfl rfl hb82 ?_
                refine RW.op1 rfl (runs_not rfl) ?_
                refine RW.op1 rfl (runs_pick_true rfl hb82 rfl) ?_
                refine RW.done ?_
                exact AQ.meet _ ⟨hle, hM, hv, hvl, hB, hst⟩ ⟨rfl, rfl, rfl, rfl, rfl, rfl, rfl, congrArg (fun z => some (Value.bool z)) (by first | rfl | (clear hPM hst hv hvl hB hM o1 o2 o3 o4 o5 o6; (try clear hPl); (try (cases Pl)) <;> cases Pb <;> cases Mb <;> simp_all <;> omega)), trivial⟩
              · have hb82p := hb82
                try simp only [decide_eq_true_eq, decide_eq_false_iff_not] at hb82p
                refine RW.off_guard rfl rfl rfl rfl hb82 ?_
                refine RW.off_guard rfl rfl rfl rfl hb82 ?_
                refine RW.op1 rfl (runs_pick_false rfl hb82 rfl) ?_
                refine RW.done ?_
                exact AQ.meet _ ⟨hle, hM, hv, hvl, hB, hst⟩ ⟨rfl, rfl, rfl, rfl, rfl, rfl, rfl, congrArg (fun z => some (Value.bool z)) (by first | rfl | (clear hPM hst hv hvl hB hM o1 o2 o3 o4 o5 o6; (try clear hPl); (try (cases Pl)) <;> cases Pb <;> cases Mb <;> simp_all <;> omega)), trivial⟩
            · have hb77p := hb77
              try simp only [decide_eq_true_eq, decide_eq_false_iff_not] at hb77p
              refine RW.off_guard rfl rfl rfl rfl hb77 ?_
              refine RW.off_guard rfl rfl rfl rfl hb77 ?_
              refine RW.off_guard rfl rfl rfl rfl hb77 ?_
              refine RW.op1 rfl (runs_pick_false rfl hb77 rfl) ?_
              refine RW.op1 rfl (runs_move rfl) ?_
              refine RW.off_guard rfl rfl rfl rfl rfl ?_
              refine RW.off_guard rfl rfl rfl rfl rfl ?_
              refine RW.op1 rfl (runs_pick_false rfl rfl rfl) ?_
              refine RW.done ?_
              exact AQ.meet _ ⟨hle, hM, hv, hvl, hB, hst⟩ ⟨rfl, rfl, rfl, rfl, rfl, rfl, rfl, congrArg (fun z => some (Value.bool z)) (by first | rfl | (clear hPM hst hv hvl hB hM o1 o2 o3 o4 o5 o6; (try clear hPl); (try (cases Pl)) <;> cases Pb <;> cases Mb <;> simp_all <;> omega)), trivial⟩
          · have hb72p := hb72
            try simp only [decide_eq_true_eq, decide_eq_false_iff_not] at hb72p
            refine RW.off_guard rfl rfl rfl rfl hb72 ?_
            refine RW.off_guard rfl rfl rfl rfl hb72 ?_
            refine RW.off_guard rfl rfl rfl rfl hb72 ?_
            refine RW.op1 rfl (runs_pick_false rfl hb72 rfl) ?_
            refine RW.op1 rfl (runs_move rfl) ?_
            refine RW.off_guard rfl rfl rfl rfl rfl ?_
            refine RW.off_guard rfl rfl rfl rfl rfl ?_
            refine RW.off_guard rfl rfl rfl rfl rfl ?_
            refine RW.op1 rfl (runs_pick_false rfl rfl rfl) ?_
            refine RW.op1 rfl (runs_move rfl) ?_
            refine RW.off_guard rfl rfl rfl rfl rfl ?_
            refine RW.off_guard rfl rfl rfl rfl rfl ?_
            refine RW.op1 rfl (runs_pick_false rfl rfl rfl) ?_
            refine RW.done ?_
            exact AQ.meet _ ⟨hle, hM, hv, hvl, hB, hst⟩ ⟨rfl, rfl, rfl, rfl, rfl, rfl, rfl, congrArg (fun z => some (Value.bool z)) (by first | rfl | (clear hPM hst hv hvl hB hM o1 o2 o3 o4 o5 o6; (try clear hPl); (try (cases Pl)) <;> cases Pb <;> cases Mb <;> simp_all <;> omega)), trivial⟩
        · have hb67p := hb67
          try simp only [decide_eq_true_eq, decide_eq_false_iff_not] at hb67p
          refine RW.off_guard rfl rfl rfl rfl hb67 ?_
          refine RW.off_guard rfl rfl rfl rfl hb67 ?_
          refine RW.off_guard rfl rfl rfl rfl hb67 ?_
          refine RW.op1 rfl (runs_pick_false rfl hb67 rfl) ?_
          refine RW.op1 rfl (runs_move rfl) ?_
          refine RW.off_guard rfl rfl rfl rfl rfl ?_
          refine RW.off_guard rfl rfl rfl rfl rfl ?_
          refine RW.off_guard rfl rfl rfl rfl rfl ?_
          refine RW.op1 rfl (runs_pick_false rfl rfl rfl) ?_
          refine RW.op1 rfl (runs_move rfl) ?_
          refine RW.off_guard rfl rfl rfl rfl rfl ?_
          refine RW.off_guard rfl rfl rfl rfl rfl ?_
          refine RW.off_guard rfl rfl rfl rfl rfl ?_
          refine RW.op1 rfl (runs_pick_false rfl rfl rfl) ?_
          refine RW.op1 rfl (runs_move rfl) ?_
          refine RW.off_guard rfl rfl rfl rfl rfl ?_
          refine RW.off_guard rfl rfl rfl rfl rfl ?_
          refine RW.op1 rfl (runs_pick_false rfl rfl rfl) ?_
          refine RW.done ?_
          exact AQ.meet _ ⟨hle, hM, hv, hvl, hB, hst⟩ ⟨rfl, rfl, rfl, rfl, rfl, rfl, rfl, congrArg (fun z => some (Value.bool z)) (by first | rfl | (clear hPM hst hv hvl hB hM o1 o2 o3 o4 o5 o6; (try clear hPl); (try (cases Pl)) <;> cases Pb <;> cases Mb <;> simp_all <;> omega)), trivial⟩
      · clear hle hM hv hvl hB hst
        rintro J85 w ⟨hle, hM, hv, hvl, hB, hst⟩
        refine AQ.next ?_
        refine CW.cond rfl (fun hc => absurd hc (by decide)) (fun hc => ?_)
        refine CW.skip ?_
        refine AQ.block_normal ?_
        refine AQ.next ?_
        -- region 13
        refine CW.region ?_
        refine RW.op1 rfl (runs_add rfl rfl (by omega)) ?_
        refine RW.op1 rfl (runs_move rfl) ?_
        refine RW.done ?_
        exact AQ.again (x := (k, J)) (k + 1, _) ⟨hle, hM, hv, hvl, hB, hst, by dsimp only; omega⟩ ⟨rfl, rfl, rfl, rfl, rfl, rfl, rfl, trivial⟩ (by dsimp only; omega)
  · have hcb38 := hc38
    try simp only [decide_eq_true_eq, decide_eq_false_iff_not] at hc38
    skip
    refine CW.exit ?_
    refine AQ.past_exit ?_
    refine AQ.past_exit ?_
    refine AQ.block_hit ?_
    refine AQ.next ?_
    refine CW.seq ?_
    -- region 14
    refine CW.region ?_
    refine RW.op1 rfl (runs_buildF (cells := [_, _]) bz30 rfl rfl rfl rfl rfl) ?_
    refine RW.op1 rfl (runs_buildF (cells := [_, _]) bz30 rfl rfl rfl rfl rfl) ?_
    refine RW.op1 rfl (runs_buildF (cells := [_, _]) bz30 rfl rfl rfl rfl rfl) ?_
    refine RW.op1 rfl (runs_buildF (cells := [_, _]) bz30 rfl rfl rfl rfl rfl) ?_
    refine RW.opE rfl (runs_litF (xs := [.agg #[_, _], .agg #[_, _], .agg #[_, _], .agg #[_, _]]) Tryd.underlying31 ti30 (by decide) rfl rfl rfl rfl rfl hst (by decide)) ?_
    rintro u14 w ⟨Lv14, hstn, hg14⟩
    clear hst
    have hst := hstn
    clear hstn
    obtain ⟨J14, hJ14, hstn, h14⟩ := Grow.freeze hg14 hst
    clear hst
    have hst := hstn
    clear hstn
    replace hM := hM.mono hJ14
    replace hv := hv.mono hJ14
    replace hvl := hvl.mono hJ14
    replace hB := hB.mono hJ14
    replace hle := hle.trans hJ14
    try simp only [List.nil_append] at h14
    replace h14 : RdH J14 u14 (starHl.map hrowC) := h14
    obtain ⟨A4, C4, rfl⟩ : ∃ A c, u14 = .slice A 4 c := by obtain ⟨_, _, A, c, e, _⟩ := h14; exact ⟨A, c, e⟩
    have hS := h14
    refine RW.op1 rfl (runs_buildF (cells := [_, _, _, _]) bz35 rfl rfl rfl rfl rfl) ?_
    refine RW.opE rfl (runs_alloc ti35 hst) ?_
    rintro _ w ⟨b15, rfl, hstn⟩
    clear hst
    have hst := hstn
    clear hstn
    first
      | refine RW.opE0 (runs_storeW ti35 rfl rfl hst (k := 0) rfl rfl rfl (NoFz.zero _) rfl) ?_
      | refine RW.opE0 (runs_storeP ti35 rfl rfl hst (k := 0) rfl rfl rfl (NoFz.zero _) rfl) ?_
      | refine RW.opE0 (runs_storeW ti35 rfl rfl hst (k := 1) rfl rfl rfl (NoFz.zero _) rfl) ?_
      | refine RW.opE0 (runs_storeP ti35 rfl rfl hst (k := 1) rfl rfl rfl (NoFz.zero _) rfl) ?_
      | refine RW.opE0 (runs_storeW ti35 rfl rfl hst (k := 2) rfl rfl rfl (NoFz.zero _) rfl) ?_
      | refine RW.opE0 (runs_storeP ti35 rfl rfl hst (k := 2) rfl rfl rfl (NoFz.zero _) rfl) ?_
    rintro w hstn
    clear hst
    have hst := hstn
    clear hstn
    try simp only [List.set_cons_zero, List.set_cons_succ] at hst
    refine RW.done ?_
    refine AQ.next ?_
    refine CW.seq ?_
    -- region 15
    refine CW.region ?_
    refine RW.op1 rfl (runs_move rfl) ?_
    refine RW.op1 rfl (runs_buildF (cells := [_, _]) bz30 rfl rfl rfl rfl rfl) ?_
    refine RW.op1 rfl (runs_buildF (cells := [_, _]) bz30 rfl rfl rfl rfl rfl) ?_
    refine RW.opE rfl (runs_litF (xs := [.agg #[_, _], .agg #[_, _]]) Tryd.underlying31 ti30 (by decide) rfl rfl rfl rfl rfl hst (by decide)) ?_
    rintro u17 w ⟨Lv17, hstn, hg17⟩
    clear hst
    have hst := hstn
    clear hstn
    obtain ⟨J17, hJ17, hstn, h17⟩ := Grow.freeze hg17 hst
    clear hst
    have hst := hstn
    clear hstn
    replace hM := hM.mono hJ17
    replace hv := hv.mono hJ17
    replace hvl := hvl.mono hJ17
    replace hB := hB.mono hJ17
    replace h14 := h14.mono hJ17
    replace hS := hS.mono hJ17
    replace hle := hle.trans hJ17
    try simp only [List.nil_append] at h17
    replace h17 : RdH J17 u17 ((ownHl oo).map hrowC) := h17
    obtain ⟨A2, C2, rfl⟩ : ∃ A c, u17 = .slice A 2 c := by obtain ⟨_, _, A, c, e, _⟩ := h17; exact ⟨A, c, e⟩
    have hW := h17
    refine RW.op1 rfl (runs_buildF (cells := [_, _, _, _]) bz35 rfl rfl rfl rfl rfl) ?_
    refine RW.opE rfl (runs_alloc ti35 hst) ?_
    rintro _ w ⟨b18, rfl, hstn⟩
    clear hst
    have hst := hstn
    clear hstn
    first
      | refine RW.opE0 (runs_storeW ti35 rfl rfl hst (k := 0) rfl rfl rfl (NoFz.zero _) rfl) ?_
      | refine RW.opE0 (runs_storeP ti35 rfl rfl hst (k := 0) rfl rfl rfl (NoFz.zero _) rfl) ?_
      | refine RW.opE0 (runs_storeW ti35 rfl rfl hst (k := 1) rfl rfl rfl (NoFz.zero _) rfl) ?_
      | refine RW.opE0 (runs_storeP ti35 rfl rfl hst (k := 1) rfl rfl rfl (NoFz.zero _) rfl) ?_
      | refine RW.opE0 (runs_storeW ti35 rfl rfl hst (k := 2) rfl rfl rfl (NoFz.zero _) rfl) ?_
      | refine RW.opE0 (runs_storeP ti35 rfl rfl hst (k := 2) rfl rfl rfl (NoFz.zero _) rfl) ?_
    rintro w hstn
    clear hst
    have hst := hstn
    clear hstn
    try simp only [List.set_cons_zero, List.set_cons_succ] at hst
    refine RW.done ?_
    refine AQ.next ?_
    refine CW.seq ?_
    -- region 16
    refine CW.region ?_
    first
      | refine RW.op1 rfl (runs_loadN (vs := [_, _, _, _]) ag35 ti35 rfl hst (k := 0) rfl rfl rfl) ?_
      | refine RW.op1 rfl (runs_loadN (vs := [_, _, _, _]) ag35 ti35 rfl hst (k := 1) rfl rfl rfl) ?_
      | refine RW.op1 rfl (runs_loadN (vs := [_, _, _, _]) ag35 ti35 rfl hst (k := 2) rfl rfl rfl) ?_
    refine RW.op1 rfl (runs_move rfl) ?_
    refine RW.call rfl call12 rfl rfl (check_spec hst hv hok code body false (strOf oo) true) ?_
    rintro e w ⟨I20, hI20, rfl, hstn⟩
    clear hst
    have hst := hstn
    clear hstn
    skip
    replace hM := hM.mono hI20
    replace hv := hv.mono hI20
    replace hvl := hvl.mono hI20
    replace hB := hB.mono hI20
    replace h14 := h14.mono hI20
    replace hS := hS.mono hI20
    replace h17 := h17.mono hI20
    replace hW := hW.mono hI20
    replace hle := hle.trans hI20
    refine ⟨_, rfl, ?_⟩
    refine RW.op1 rfl (runs_not rfl) ?_
    refine RW.op1 rfl (runs_move rfl) ?_
    refine RW.split (t := 102) rfl (fun hb102 => ?_) (fun hb102 => ?_)
    · have hb102p := hb102
      try simp only [decide_eq_true_eq, decide_eq_false_iff_not] at hb102p
      refine RW.off_guard rfl rfl rfl rfl hb102 ?_
      refine RW.off_guard rfl rfl rfl rfl hb102 ?_
      refine RW.off_guard rfl rfl rfl rfl hb102 ?_
      refine RW.op1 rfl (runs_pick_true rfl hb102 rfl) ?_
      refine RW.op1 rfl (runs_move rfl) ?_
      refine RW.on_guard rfl rfl rfl rfl rfl ?_
      first
        | refine RW.op1 rfl (runs_loadN (vs := [_, _, _, _]) ag35 ti35 rfl hst (k := 0) rfl rfl rfl) ?_
        | refine RW.op1 rfl (runs_loadN (vs := [_, _, _, _]) ag35 ti35 rfl hst (k := 1) rfl rfl rfl) ?_
        | refine RW.op1 rfl (runs_loadN (vs := [_, _, _, _]) ag35 ti35 rfl hst (k := 2) rfl rfl rfl) ?_
      refine RW.on_guard rfl rfl rfl rfl rfl ?_
      refine RW.op1 rfl (runs_move rfl) ?_
      refine RW.on_guard rfl rfl rfl rfl rfl ?_
      refine RW.call rfl call12 rfl rfl (check_spec hst hS star_hb 200 ⟨#[]⟩ false (strOf oo) true) ?_
      rintro e w ⟨I21, hI21, rfl, hstn⟩
      clear hst
      have hst := hstn
      clear hstn
      rw [checkS o1]
      replace hM := hM.mono hI21
      replace hv := hv.mono hI21
      replace hvl := hvl.mono hI21
      replace hB := hB.mono hI21
      replace h14 := h14.mono hI21
      replace hS := hS.mono hI21
      replace h17 := h17.mono hI21
      replace hW := hW.mono hI21
      replace hle := hle.trans hI21
      refine ⟨_, rfl, ?_⟩
      refine RW.on_guard rfl rfl rfl rfl rfl ?_
      refine RW.op1 rfl (runs_not rfl) ?_
      refine RW.op1 rfl (runs_pick_true rfl rfl rfl) ?_
      refine RW.op1 rfl (runs_move rfl) ?_
      have hk113 := (show (!false) = true from rfl)
      refine RW.on_guard rfl rfl rfl rfl hk113 ?_
      first
        | refine RW.op1 rfl (runs_loadN (vs := [_, _, _, _]) ag35 ti35 rfl hst (k := 0) rfl rfl rfl) ?_
        | refine RW.op1 rfl (runs_loadN (vs := [_, _, _, _]) ag35 ti35 rfl hst (k := 1) rfl rfl rfl) ?_
        | refine RW.op1 rfl (runs_loadN (vs := [_, _, _, _]) ag35 ti35 rfl hst (k := 2) rfl rfl rfl) ?_
      refine RW.on_guard rfl rfl rfl rfl hk113 ?_
      refine RW.op1 rfl (runs_move rfl) ?_
      refine RW.on_guard rfl rfl rfl rfl hk113 ?_
      refine RW.call rfl call12 rfl rfl (check_spec hst hS star_hb 200 ⟨#[]⟩ false (strOf oo) false) ?_
      rintro e w ⟨I22, hI22, rfl, hstn⟩
      clear hst
      have hst := hstn
      clear hstn
      rw [checkS o2]
      replace hM := hM.mono hI22
      replace hv := hv.mono hI22
      replace hvl := hvl.mono hI22
      replace hB := hB.mono hI22
      replace h14 := h14.mono hI22
      replace hS := hS.mono hI22
      replace h17 := h17.mono hI22
      replace hW := hW.mono hI22
      replace hle := hle.trans hI22
      refine ⟨_, rfl, ?_⟩
      refine RW.op1 rfl (runs_pick_true rfl hk113 rfl) ?_
      refine RW.op1 rfl (runs_move rfl) ?_
      have hk118 := (show true = true from rfl)
      refine RW.on_guard rfl rfl rfl rfl hk118 ?_
      first
        | refine RW.op1 rfl (runs_loadN (vs := [_, _, _, _]) ag35 ti35 rfl hst (k := 0) rfl rfl rfl) ?_
        | refine RW.op1 rfl (runs_loadN (vs := [_, _, _, _]) ag35 ti35 rfl hst (k := 1) rfl rfl rfl) ?_
        | refine RW.op1 rfl (runs_loadN (vs := [_, _, _, _]) ag35 ti35 rfl hst (k := 2) rfl rfl rfl) ?_
      refine RW.on_guard rfl rfl rfl rfl hk118 ?_
      refine RW.op1 rfl (runs_move rfl) ?_
      refine RW.on_guard rfl rfl rfl rfl hk118 ?_
      refine RW.op1 rfl (runs_move rfl) ?_
      refine RW.on_guard rfl rfl rfl rfl hk118 ?_
      refine RW.op1 rfl (runs_move rfl) ?_
      refine RW.on_guard rfl rfl rfl rfl hk118 ?_
      refine RW.call rfl call13 rfl rfl (pre_spec hst hM hS star_hb 200 ⟨#[]⟩ false hvl hhb (strOf oo) (strOf mm) (by rw [strOfZ]; omega) false) ?_
      rintro e w ⟨I23, hI23, rfl, hstn⟩
      clear hst
      have hst := hstn
      clear hstn
      rw [decide_eq_true (star_pre (by rw [strOf_toList]; exact o2) _ _)]
      replace hM := hM.mono hI23
      replace hv := hv.mono hI23
      replace hvl := hvl.mono hI23
      replace hB := hB.mono hI23
      replace h14 := h14.mono hI23
      replace hS := hS.mono hI23
      replace h17 := h17.mono hI23
      replace hW := hW.mono hI23
      replace hle := hle.trans hI23
      refine ⟨_, rfl, ?_⟩
      refine RW.op1 rfl (runs_pick_true rfl hk118 rfl) ?_
      refine RW.op1 rfl (runs_move rfl) ?_
      have hk125 := (show true = true from rfl)
      refine RW.on_guard rfl rfl rfl rfl hk125 ?_
      first
        | refine RW.op1 rfl (runs_loadN (vs := [_, _, _, _]) ag35 ti35 rfl hst (k := 0) rfl rfl rfl) ?_
        | refine RW.op1 rfl (runs_loadN (vs := [_, _, _, _]) ag35 ti35 rfl hst (k := 1) rfl rfl rfl) ?_
        | refine RW.op1 rfl (runs_loadN (vs := [_, _, _, _]) ag35 ti35 rfl hst (k := 2) rfl rfl rfl) ?_
      refine RW.on_guard rfl rfl rfl rfl hk125 ?_
      refine RW.op1 rfl (runs_move rfl) ?_
      refine RW.on_guard rfl rfl rfl rfl hk125 ?_
      refine RW.call rfl call12 rfl rfl (check_spec hst hW (own_hb o7) 204 ⟨#[]⟩ false (strOf oo) true) ?_
      rintro e w ⟨I24, hI24, rfl, hstn⟩
      clear hst
      have hst := hstn
      clear hstn
      rw [checkS o3]
      replace hM := hM.mono hI24
      replace hv := hv.mono hI24
      replace hvl := hvl.mono hI24
      replace hB := hB.mono hI24
      replace h14 := h14.mono hI24
      replace hS := hS.mono hI24
      replace h17 := h17.mono hI24
      replace hW := hW.mono hI24
      replace hle := hle.trans hI24
      refine ⟨_, rfl, ?_⟩
      refine RW.op1 rfl (runs_pick_true rfl hk125 rfl) ?_
      refine RW.op1 rfl (runs_move rfl) ?_
      have hk130 := (show true = true from rfl)
      refine RW.on_guard rfl rfl rfl rfl hk130 ?_
      first
        | refine RW.op1 rfl (runs_loadN (vs := [_, _, _, _]) ag35 ti35 rfl hst (k := 0) rfl rfl rfl) ?_
        | refine RW.op1 rfl (runs_loadN (vs := [_, _, _, _]) ag35 ti35 rfl hst (k := 1) rfl rfl rfl) ?_
        | refine RW.op1 rfl (runs_loadN (vs := [_, _, _, _]) ag35 ti35 rfl hst (k := 2) rfl rfl rfl) ?_
      refine RW.on_guard rfl rfl rfl rfl hk130 ?_
      refine RW.op1 rfl (runs_move rfl) ?_
      refine RW.on_guard rfl rfl rfl rfl hk130 ?_
      refine RW.op1 rfl (runs_addS rfl rfl (by rw [strOfZ]; show _ + 1 ≤ _; omega)) ?_
      rw [show (ByteArray.mk #[120]) = strOf [120] from rfl, strOf_append]
      refine RW.on_guard rfl rfl rfl rfl hk130 ?_
      refine RW.call rfl call12 rfl rfl (check_spec hst hW (own_hb o7) 204 ⟨#[]⟩ false (strOf (oo ++ [120])) true) ?_
      rintro e w ⟨I25, hI25, rfl, hstn⟩
      clear hst
      have hst := hstn
      clear hstn
      rw [checkS o4]
      replace hM := hM.mono hI25
      replace hv := hv.mono hI25
      replace hvl := hvl.mono hI25
      replace hB := hB.mono hI25
      replace h14 := h14.mono hI25
      replace hS := hS.mono hI25
      replace h17 := h17.mono hI25
      replace hW := hW.mono hI25
      replace hle := hle.trans hI25
      refine ⟨_, rfl, ?_⟩
      refine RW.on_guard rfl rfl rfl rfl hk130 ?_
      refine RW.op1 rfl (runs_not rfl) ?_
      refine RW.op1 rfl (runs_pick_true rfl hk130 rfl) ?_
      refine RW.op1 rfl (runs_move rfl) ?_
      have hk137 := (show (!false) = true from rfl)
      refine RW.on_guard rfl rfl rfl rfl hk137 ?_
      first
        | refine RW.op1 rfl (runs_loadN (vs := [_, _, _, _]) ag35 ti35 rfl hst (k := 0) rfl rfl rfl) ?_
        | refine RW.op1 rfl (runs_loadN (vs := [_, _, _, _]) ag35 ti35 rfl hst (k := 1) rfl rfl rfl) ?_
        | refine RW.op1 rfl (runs_loadN (vs := [_, _, _, _]) ag35 ti35 rfl hst (k := 2) rfl rfl rfl) ?_
      refine RW.on_guard rfl rfl rfl rfl hk137 ?_
      refine RW.op1 rfl (runs_move rfl) ?_
      refine RW.on_guard rfl rfl rfl rfl hk137 ?_
      refine RW.call rfl call13 rfl rfl (pre_spec hst hM hW (own_hb o7) 204 ⟨#[]⟩ false (show RdH _ (.slice none 0 0) (([] : List HL).map hrowC) from RdL.nil 2) HB.nil (strOf oo) (strOf postL) (by decide) true) ?_
      rintro e w ⟨I26, hI26, rfl, hstn⟩
      clear hst
      have hst := hstn
      clear hstn
      rw [preS2 [] o5]
      replace hM := hM.mono hI26
      replace hv := hv.mono hI26
      replace hvl := hvl.mono hI26
      replace hB := hB.mono hI26
      replace h14 := h14.mono hI26
      replace hS := hS.mono hI26
      replace h17 := h17.mono hI26
      replace hW := hW.mono hI26
      replace hle := hle.trans hI26
      refine ⟨_, rfl, ?_⟩
      refine RW.op1 rfl (runs_pick_true rfl hk137 rfl) ?_
      refine RW.op1 rfl (runs_move rfl) ?_
      have hk142 := (show true = true from rfl)
      refine RW.on_guard rfl rfl rfl rfl hk142 ?_
      first
        | refine RW.op1 rfl (runs_loadN (vs := [_, _, _, _]) ag35 ti35 rfl hst (k := 0) rfl rfl rfl) ?_
        | refine RW.op1 rfl (runs_loadN (vs := [_, _, _, _]) ag35 ti35 rfl hst (k := 1) rfl rfl rfl) ?_
        | refine RW.op1 rfl (runs_loadN (vs := [_, _, _, _]) ag35 ti35 rfl hst (k := 2) rfl rfl rfl) ?_
      refine RW.on_guard rfl rfl rfl rfl hk142 ?_
      refine RW.op1 rfl (runs_move rfl) ?_
      refine RW.on_guard rfl rfl rfl rfl hk142 ?_
      refine RW.call rfl call13 rfl rfl (pre_spec hst hM hW (own_hb o7) 204 ⟨#[]⟩ false (show RdH _ (.slice none 0 0) (([] : List HL).map hrowC) from RdL.nil 2) HB.nil (strOf oo) (strOf [80, 85, 84]) (by decide) true) ?_
      rintro e w ⟨I27, hI27, rfl, hstn⟩
      clear hst
      have hst := hstn
      clear hstn
      rw [preS2 [] o6]
      replace hM := hM.mono hI27
      replace hv := hv.mono hI27
      replace hvl := hvl.mono hI27
      replace hB := hB.mono hI27
      replace h14 := h14.mono hI27
      replace hS := hS.mono hI27
      replace h17 := h17.mono hI27
      replace hW := hW.mono hI27
      replace hle := hle.trans hI27
      refine ⟨_, rfl, ?_⟩
      refine RW.on_guard rfl rfl rfl rfl hk142 ?_
      refine RW.op1 rfl (runs_not rfl) ?_
      refine RW.op1 rfl (runs_pick_true rfl hk142 rfl) ?_
      refine RW.op1 rfl (runs_move rfl) ?_
      have hk148 := (show (!false) = true from rfl)
      refine RW.on_guard rfl rfl rfl rfl hk148 ?_
      refine RW.call rfl call11 rfl rfl (wakes13_spec hst hM) ?_
      rintro e w ⟨rfl, I28, hI28, hstn⟩
      clear hst
      have hst := hstn
      clear hstn
      replace hM := hM.mono hI28
      replace hv := hv.mono hI28
      replace hvl := hvl.mono hI28
      replace hB := hB.mono hI28
      replace h14 := h14.mono hI28
      replace hS := hS.mono hI28
      replace h17 := h17.mono hI28
      replace hW := hW.mono hI28
      replace hle := hle.trans hI28
      refine ⟨_, rfl, ?_⟩
      refine RW.op1 rfl (runs_pick_true rfl hk148 rfl) ?_
      refine RW.op1 rfl (runs_assign rfl) ?_
      refine RW.done ?_
      refine AQ.next ?_
      refine CW.ret ?_
      refine AQ.ret1 rfl rfl ?_
      exact ⟨rfl, _, hle, hst.drop1.drop1.drop1⟩
    · have hb102p := hb102
      try simp only [decide_eq_true_eq, decide_eq_false_iff_not] at hb102p
      refine RW.on_guard rfl rfl rfl rfl hb102 ?_
      first
        | refine RW.op1 rfl (runs_loadN (vs := [_, _, _, _]) ag35 ti35 rfl hst (k := 0) rfl rfl rfl) ?_
        | refine RW.op1 rfl (runs_loadN (vs := [_, _, _, _]) ag35 ti35 rfl hst (k := 1) rfl rfl rfl) ?_
        | refine RW.op1 rfl (runs_loadN (vs := [_, _, _, _]) ag35 ti35 rfl hst (k := 2) rfl rfl rfl) ?_
      refine RW.on_guard rfl rfl rfl rfl hb102 ?_
      refine RW.op1 rfl (runs_move rfl) ?_
      refine RW.on_guard rfl rfl rfl rfl hb102 ?_
      refine RW.call rfl call12 rfl rfl (check_spec hst hv hok code body false (strOf oo) false) ?_
      rintro e w ⟨I29, hI29, rfl, hstn⟩
      clear hst
      have hst := hstn
      clear hstn
      rw [show decide (CheckR hs (strOf oo).toList false) = true from decide_eq_true (check_off (of_decide_eq_true (by simpa using hb102)))]
      replace hM := hM.mono hI29
      replace hv := hv.mono hI29
      replace hvl := hvl.mono hI29
      replace hB := hB.mono hI29
      replace h14 := h14.mono hI29
      replace hS := hS.mono hI29
      replace h17 := h17.mono hI29
      replace hW := hW.mono hI29
      replace hle := hle.trans hI29
      refine ⟨_, rfl, ?_⟩
      refine RW.op1 rfl (runs_pick_false rfl hb102 rfl) ?_
      refine RW.op1 rfl (runs_move rfl) ?_
      have hk107 := (show true = true from rfl)
      refine RW.on_guard rfl rfl rfl rfl hk107 ?_
      first
        | refine RW.op1 rfl (runs_loadN (vs := [_, _, _, _]) ag35 ti35 rfl hst (k := 0) rfl rfl rfl) ?_
        | refine RW.op1 rfl (runs_loadN (vs := [_, _, _, _]) ag35 ti35 rfl hst (k := 1) rfl rfl rfl) ?_
        | refine RW.op1 rfl (runs_loadN (vs := [_, _, _, _]) ag35 ti35 rfl hst (k := 2) rfl rfl rfl) ?_
      refine RW.on_guard rfl rfl rfl rfl hk107 ?_
      refine RW.op1 rfl (runs_move rfl) ?_
      refine RW.on_guard rfl rfl rfl rfl hk107 ?_
      refine RW.call rfl call12 rfl rfl (check_spec hst hS star_hb 200 ⟨#[]⟩ false (strOf oo) true) ?_
      rintro e w ⟨I30, hI30, rfl, hstn⟩
      clear hst
      have hst := hstn
      clear hstn
      rw [checkS o1]
      replace hM := hM.mono hI30
      replace hv := hv.mono hI30
      replace hvl := hvl.mono hI30
      replace hB := hB.mono hI30
      replace h14 := h14.mono hI30
      replace hS := hS.mono hI30
      replace h17 := h17.mono hI30
      replace hW := hW.mono hI30
      replace hle := hle.trans hI30
      refine ⟨_, rfl, ?_⟩
      refine RW.on_guard rfl rfl rfl rfl hk107 ?_
      refine RW.op1 rfl (runs_not rfl) ?_
      refine RW.op1 rfl (runs_pick_true rfl hk107 rfl) ?_
      refine RW.op1 rfl (runs_move rfl) ?_
      have hk113 := (show (!false) = true from rfl)
      refine RW.on_guard rfl rfl rfl rfl hk113 ?_
      first
        | refine RW.op1 rfl (runs_loadN (vs := [_, _, _, _]) ag35 ti35 rfl hst (k := 0) rfl rfl rfl) ?_
        | refine RW.op1 rfl (runs_loadN (vs := [_, _, _, _]) ag35 ti35 rfl hst (k := 1) rfl rfl rfl) ?_
        | refine RW.op1 rfl (runs_loadN (vs := [_, _, _, _]) ag35 ti35 rfl hst (k := 2) rfl rfl rfl) ?_
      refine RW.on_guard rfl rfl rfl rfl hk113 ?_
      refine RW.op1 rfl (runs_move rfl) ?_
      refine RW.on_guard rfl rfl rfl rfl hk113 ?_
      refine RW.call rfl call12 rfl rfl (check_spec hst hS star_hb 200 ⟨#[]⟩ false (strOf oo) false) ?_
      rintro e w ⟨I31, hI31, rfl, hstn⟩
      clear hst
      have hst := hstn
      clear hstn
      rw [checkS o2]
      replace hM := hM.mono hI31
      replace hv := hv.mono hI31
      replace hvl := hvl.mono hI31
      replace hB := hB.mono hI31
      replace h14 := h14.mono hI31
      replace hS := hS.mono hI31
      replace h17 := h17.mono hI31
      replace hW := hW.mono hI31
      replace hle := hle.trans hI31
      refine ⟨_, rfl, ?_⟩
      refine RW.op1 rfl (runs_pick_true rfl hk113 rfl) ?_
      refine RW.op1 rfl (runs_move rfl) ?_
      have hk118 := (show true = true from rfl)
      refine RW.on_guard rfl rfl rfl rfl hk118 ?_
      first
        | refine RW.op1 rfl (runs_loadN (vs := [_, _, _, _]) ag35 ti35 rfl hst (k := 0) rfl rfl rfl) ?_
        | refine RW.op1 rfl (runs_loadN (vs := [_, _, _, _]) ag35 ti35 rfl hst (k := 1) rfl rfl rfl) ?_
        | refine RW.op1 rfl (runs_loadN (vs := [_, _, _, _]) ag35 ti35 rfl hst (k := 2) rfl rfl rfl) ?_
      refine RW.on_guard rfl rfl rfl rfl hk118 ?_
      refine RW.op1 rfl (runs_move rfl) ?_
      refine RW.on_guard rfl rfl rfl rfl hk118 ?_
      refine RW.op1 rfl (runs_move rfl) ?_
      refine RW.on_guard rfl rfl rfl rfl hk118 ?_
      refine RW.op1 rfl (runs_move rfl) ?_
      refine RW.on_guard rfl rfl rfl rfl hk118 ?_
      refine RW.call rfl call13 rfl rfl (pre_spec hst hM hS star_hb 200 ⟨#[]⟩ false hvl hhb (strOf oo) (strOf mm) (by rw [strOfZ]; omega) false) ?_
      rintro e w ⟨I32, hI32, rfl, hstn⟩
      clear hst
      have hst := hstn
      clear hstn
      rw [decide_eq_true (star_pre (by rw [strOf_toList]; exact o2) _ _)]
      replace hM := hM.mono hI32
      replace hv := hv.mono hI32
      replace hvl := hvl.mono hI32
      replace hB := hB.mono hI32
      replace h14 := h14.mono hI32
      replace hS := hS.mono hI32
      replace h17 := h17.mono hI32
      replace hW := hW.mono hI32
      replace hle := hle.trans hI32
      refine ⟨_, rfl, ?_⟩
      refine RW.op1 rfl (runs_pick_true rfl hk118 rfl) ?_
      refine RW.op1 rfl (runs_move rfl) ?_
      have hk125 := (show true = true from rfl)
      refine RW.on_guard rfl rfl rfl rfl hk125 ?_
      first
        | refine RW.op1 rfl (runs_loadN (vs := [_, _, _, _]) ag35 ti35 rfl hst (k := 0) rfl rfl rfl) ?_
        | refine RW.op1 rfl (runs_loadN (vs := [_, _, _, _]) ag35 ti35 rfl hst (k := 1) rfl rfl rfl) ?_
        | refine RW.op1 rfl (runs_loadN (vs := [_, _, _, _]) ag35 ti35 rfl hst (k := 2) rfl rfl rfl) ?_
      refine RW.on_guard rfl rfl rfl rfl hk125 ?_
      refine RW.op1 rfl (runs_move rfl) ?_
      refine RW.on_guard rfl rfl rfl rfl hk125 ?_
      refine RW.call rfl call12 rfl rfl (check_spec hst hW (own_hb o7) 204 ⟨#[]⟩ false (strOf oo) true) ?_
      rintro e w ⟨I33, hI33, rfl, hstn⟩
      clear hst
      have hst := hstn
      clear hstn
      rw [checkS o3]
      replace hM := hM.mono hI33
      replace hv := hv.mono hI33
      replace hvl := hvl.mono hI33
      replace hB := hB.mono hI33
      replace h14 := h14.mono hI33
      replace hS := hS.mono hI33
      replace h17 := h17.mono hI33
      replace hW := hW.mono hI33
      replace hle := hle.trans hI33
      refine ⟨_, rfl, ?_⟩
      refine RW.op1 rfl (runs_pick_true rfl hk125 rfl) ?_
      refine RW.op1 rfl (runs_move rfl) ?_
      have hk130 := (show true = true from rfl)
      refine RW.on_guard rfl rfl rfl rfl hk130 ?_
      first
        | refine RW.op1 rfl (runs_loadN (vs := [_, _, _, _]) ag35 ti35 rfl hst (k := 0) rfl rfl rfl) ?_
        | refine RW.op1 rfl (runs_loadN (vs := [_, _, _, _]) ag35 ti35 rfl hst (k := 1) rfl rfl rfl) ?_
        | refine RW.op1 rfl (runs_loadN (vs := [_, _, _, _]) ag35 ti35 rfl hst (k := 2) rfl rfl rfl) ?_
      refine RW.on_guard rfl rfl rfl rfl hk130 ?_
      refine RW.op1 rfl (runs_move rfl) ?_
      refine RW.on_guard rfl rfl rfl rfl hk130 ?_
      refine RW.op1 rfl (runs_addS rfl rfl (by rw [strOfZ]; show _ + 1 ≤ _; omega)) ?_
      rw [show (ByteArray.mk #[120]) = strOf [120] from rfl, strOf_append]
      refine RW.on_guard rfl rfl rfl rfl hk130 ?_
      refine RW.call rfl call12 rfl rfl (check_spec hst hW (own_hb o7) 204 ⟨#[]⟩ false (strOf (oo ++ [120])) true) ?_
      rintro e w ⟨I34, hI34, rfl, hstn⟩
      clear hst
      have hst := hstn
      clear hstn
      rw [checkS o4]
      replace hM := hM.mono hI34
      replace hv := hv.mono hI34
      replace hvl := hvl.mono hI34
      replace hB := hB.mono hI34
      replace h14 := h14.mono hI34
      replace hS := hS.mono hI34
      replace h17 := h17.mono hI34
      replace hW := hW.mono hI34
      replace hle := hle.trans hI34
      refine ⟨_, rfl, ?_⟩
      refine RW.on_guard rfl rfl rfl rfl hk130 ?_
      refine RW.op1 rfl (runs_not rfl) ?_
      refine RW.op1 rfl (runs_pick_true rfl hk130 rfl) ?_
      refine RW.op1 rfl (runs_move rfl) ?_
      have hk137 := (show (!false) = true from rfl)
      refine RW.on_guard rfl rfl rfl rfl hk137 ?_
      first
        | refine RW.op1 rfl (runs_loadN (vs := [_, _, _, _]) ag35 ti35 rfl hst (k := 0) rfl rfl rfl) ?_
        | refine RW.op1 rfl (runs_loadN (vs := [_, _, _, _]) ag35 ti35 rfl hst (k := 1) rfl rfl rfl) ?_
        | refine RW.op1 rfl (runs_loadN (vs := [_, _, _, _]) ag35 ti35 rfl hst (k := 2) rfl rfl rfl) ?_
      refine RW.on_guard rfl rfl rfl rfl hk137 ?_
      refine RW.op1 rfl (runs_move rfl) ?_
      refine RW.on_guard rfl rfl rfl rfl hk137 ?_
      refine RW.call rfl call13 rfl rfl (pre_spec hst hM hW (own_hb o7) 204 ⟨#[]⟩ false (show RdH _ (.slice none 0 0) (([] : List HL).map hrowC) from RdL.nil 2) HB.nil (strOf oo) (strOf postL) (by decide) true) ?_
      rintro e w ⟨I35, hI35, rfl, hstn⟩
      clear hst
      have hst := hstn
      clear hstn
      rw [preS2 [] o5]
      replace hM := hM.mono hI35
      replace hv := hv.mono hI35
      replace hvl := hvl.mono hI35
      replace hB := hB.mono hI35
      replace h14 := h14.mono hI35
      replace hS := hS.mono hI35
      replace h17 := h17.mono hI35
      replace hW := hW.mono hI35
      replace hle := hle.trans hI35
      refine ⟨_, rfl, ?_⟩
      refine RW.op1 rfl (runs_pick_true rfl hk137 rfl) ?_
      refine RW.op1 rfl (runs_move rfl) ?_
      have hk142 := (show true = true from rfl)
      refine RW.on_guard rfl rfl rfl rfl hk142 ?_
      first
        | refine RW.op1 rfl (runs_loadN (vs := [_, _, _, _]) ag35 ti35 rfl hst (k := 0) rfl rfl rfl) ?_
        | refine RW.op1 rfl (runs_loadN (vs := [_, _, _, _]) ag35 ti35 rfl hst (k := 1) rfl rfl rfl) ?_
        | refine RW.op1 rfl (runs_loadN (vs := [_, _, _, _]) ag35 ti35 rfl hst (k := 2) rfl rfl rfl) ?_
      refine RW.on_guard rfl rfl rfl rfl hk142 ?_
      refine RW.op1 rfl (runs_move rfl) ?_
      refine RW.on_guard rfl rfl rfl rfl hk142 ?_
      refine RW.call rfl call13 rfl rfl (pre_spec hst hM hW (own_hb o7) 204 ⟨#[]⟩ false (show RdH _ (.slice none 0 0) (([] : List HL).map hrowC) from RdL.nil 2) HB.nil (strOf oo) (strOf [80, 85, 84]) (by decide) true) ?_
      rintro e w ⟨I36, hI36, rfl, hstn⟩
      clear hst
      have hst := hstn
      clear hstn
      rw [preS2 [] o6]
      replace hM := hM.mono hI36
      replace hv := hv.mono hI36
      replace hvl := hvl.mono hI36
      replace hB := hB.mono hI36
      replace h14 := h14.mono hI36
      replace hS := hS.mono hI36
      replace h17 := h17.mono hI36
      replace hW := hW.mono hI36
      replace hle := hle.trans hI36
      refine ⟨_, rfl, ?_⟩
      refine RW.on_guard rfl rfl rfl rfl hk142 ?_
      refine RW.op1 rfl (runs_not rfl) ?_
      refine RW.op1 rfl (runs_pick_true rfl hk142 rfl) ?_
      refine RW.op1 rfl (runs_move rfl) ?_
      have hk148 := (show (!false) = true from rfl)
      refine RW.on_guard rfl rfl rfl rfl hk148 ?_
      refine RW.call rfl call11 rfl rfl (wakes13_spec hst hM) ?_
      rintro e w ⟨rfl, I37, hI37, hstn⟩
      clear hst
      have hst := hstn
      clear hstn
      replace hM := hM.mono hI37
      replace hv := hv.mono hI37
      replace hvl := hvl.mono hI37
      replace hB := hB.mono hI37
      replace h14 := h14.mono hI37
      replace hS := hS.mono hI37
      replace h17 := h17.mono hI37
      replace hW := hW.mono hI37
      replace hle := hle.trans hI37
      refine ⟨_, rfl, ?_⟩
      refine RW.op1 rfl (runs_pick_true rfl hk148 rfl) ?_
      refine RW.op1 rfl (runs_assign rfl) ?_
      refine RW.done ?_
      refine AQ.next ?_
      refine CW.ret ?_
      refine AQ.ret1 rfl rfl ?_
      exact ⟨rfl, _, hle, hst.drop1.drop1.drop1⟩
end Go.Proofs.YtfdgnjbbchkgpaaDoorX
