/- A method that is not plain must be told; each unsafe header likewise. -/
import Derived.Test.YtfdgnjbbchkgpaaDoorT
import Derived.Test.YtfdgnjbbchkgpaaDoorC7
import Derived.Test.YtfdgnjbbchkgpaaDoorC6
import Derived.Test.YtfdgnjbbchkgpaaDoorXZ
namespace Go.Proofs.YtfdgnjbbchkgpaaDoorX
set_option linter.unusedVariables false
set_option linter.unusedSimpArgs false
open Go Go.RowKit Go.Proofs

theorem Grow.val {e : TypeId} {size n : Nat} {v : Value} {xs : List Value} {Lv : Own} (hg : Grow e size v n xs Lv) (h : 0 < n) : ∃ g cap, v = .slice (some ⟨g, 0, none⟩) n cap := by
  obtain ⟨_, _, ⟨_, h2, _⟩ | ⟨g, cap, cur, rfl, _⟩⟩ := hg
  · omega
  · exact ⟨g, cap, rfl⟩
theorem preE {hl : List HL} {o m : List UInt8} {creds b : Bool} {code : Int} (ll : List HL) (h : PreB code hl o creds m ll = b) : decide (PreR code (hl.map hrowC) (ByteArray.mk o.toArray).toList creds (strOf m).toList (ll.map hrowC)) = b := by
  rw [litL, strOf_toList, pre_dec, h]
theorem checkE {hl : List HL} {o : List UInt8} {creds b : Bool} (h : CheckB hl o creds = b) : decide (CheckR (hl.map hrowC) (ByteArray.mk o.toArray).toList creds) = b := by
  rw [litL, check_dec, h]
set_option maxRecDepth 100000 in
set_option maxHeartbeats 4000000 in
theorem cmethods_spec {w0 w : World} {I : Imm} {L : Own} (hst : St w0 w I L) (hM : MaxK I) (m : Int) (hm : i64ok m) (put star x all creds : Bool) :
    Calls Tryd.prog 7 #[.int .i64 m, .bool put, .bool star, .bool x, .bool all, .bool creds] w fun e w' => e = .returned (.bool true) ∧ ∃ I', I.le I' ∧ St w0 w' I' L := by
  refine enter Tryd.func7 rfl (N := 108) rfl rfl ?_
  simp only [List.zipIdx_cons, List.zipIdx_nil, List.map_cons, List.map_nil, Nat.zero_add, Nat.reduceAdd]
  have hle := Imm.le.refl I
  refine CW.seq ?_
  -- region 0
  refine CW.region ?_
  refine RW.op1 rfl (runs_assign rfl) ?_
  refine RW.done ?_
  refine AQ.next ?_
  refine CW.seq ?_
  -- region 1
  refine CW.region ?_
  refine RW.op1 rfl (runs_buildF (cells := [_, _]) bz30 rfl rfl rfl rfl rfl) ?_
  refine RW.op1 rfl (runs_buildF (cells := [_, _]) bz30 rfl rfl rfl rfl rfl) ?_
  refine RW.opE rfl (runs_litF (xs := [.agg #[_, _], .agg #[_, _]]) Tryd.underlying31 ti30 (by decide) rfl rfl rfl rfl rfl hst (by decide)) ?_
  rintro u1 w ⟨Lv1, hstn, hg1⟩
  clear hst
  have hst := hstn
  clear hstn
  replace hg1 : Grow 30 2 u1 2 ((([(allowOL, ohL), (acredL, trueL)] : List HL).map hrowC).flatMap hrow) Lv1 := hg1
  obtain ⟨gA, cA, rfl⟩ := hg1.val (by decide)
  refine RW.op1 rfl (runs_buildF (cells := [_, _, _, _]) bz35 rfl rfl rfl rfl rfl) ?_
  refine RW.opE rfl (runs_alloc ti35 hst) ?_
  rintro _ w ⟨b2, rfl, hstn⟩
  clear hst
  have hst := hstn
  clear hstn
  replace hst := hst.perm (List.perm_middle (l₁ := Lv1)).symm
  replace hst := hst.perm List.perm_middle
  refine RW.opE0 (runs_storeW ti35 rfl rfl hst (k := 0) rfl rfl rfl (NoFz.zero _) (all4 _ _ hg1.one)) ?_
  rintro w hstn
  clear hst
  have hst := hstn
  clear hstn
  try simp only [List.set_cons_zero, List.set_cons_succ] at hst
  refine RW.done ?_
  refine AQ.next ?_
  refine CW.seq ?_
  -- region 2
  refine CW.region ?_
  refine RW.op1 rfl (runs_assign rfl) ?_
  refine RW.op1 rfl (runs_assign rfl) ?_
  refine RW.done ?_
  refine AQ.next ?_
  refine CW.seq ?_
  refine CW.seq ?_
  -- region 3
  refine CW.region ?_
  refine RW.op1 rfl (runs_move rfl) ?_
  refine RW.done ?_
  refine AQ.next ?_
  refine CW.cut Unit (fun _ w => St w0 w I ((b2, Obj.cells (Value.agg #[.int .i64 200, .slice (some ⟨gA, 0, none⟩) 2 cA, .string ⟨#[]⟩, .bool false]).cells 35) :: (Lv1 ++ L))) (fun _ => [(0, .int .i64 m), (1, .bool put), (2, .bool star), (3, .bool x), (4, .bool all), (5, .bool creds), (13, .pointer (some ⟨b2, 0, none⟩)), (14, .string (strOf ([68, 69, 76, 69, 84, 69] ++ (if put = true then [44, 80, 85, 84] else [])))), (15, .string (strOf ([121])))]) ?_ ?_
  · refine CW.cond rfl (fun hc23 => ?_) (fun hc23 => ?_)
    · have hcb23 := hc23
      try simp only [decide_eq_true_eq, decide_eq_false_iff_not] at hc23
      -- region 4
      refine CW.region ?_
      refine RW.op1 rfl (runs_move rfl) ?_
      refine RW.op1 rfl (runs_addS rfl rfl (by decide)) ?_
      refine RW.op1 rfl (runs_assign rfl) ?_
      refine RW.done ?_
      exact AQ.meet () hst ⟨rfl, rfl, rfl, rfl, rfl, rfl, rfl, (by rw [hc23]; rfl), rfl, trivial⟩
    · have hcb23 := hc23
      try simp only [decide_eq_true_eq, decide_eq_false_iff_not] at hc23
      refine CW.skip ?_
      exact AQ.meet () hst ⟨rfl, rfl, rfl, rfl, rfl, rfl, rfl, (by rw [hc23]; rfl), rfl, trivial⟩
  · rintro _ w hstn
    clear hst
    have hst := hstn
    clear hstn
    refine AQ.next ?_
    refine CW.seq ?_
    refine CW.seq ?_
    -- region 5
    refine CW.region ?_
    refine RW.op1 rfl (runs_move rfl) ?_
    refine RW.done ?_
    refine AQ.next ?_
    refine CW.cut Unit (fun _ w => St w0 w I ((b2, Obj.cells (Value.agg #[.int .i64 200, .slice (some ⟨gA, 0, none⟩) 2 cA, .string ⟨#[]⟩, .bool false]).cells 35) :: (Lv1 ++ L))) (fun _ => [(0, .int .i64 m), (1, .bool put), (2, .bool star), (3, .bool x), (4, .bool all), (5, .bool creds), (13, .pointer (some ⟨b2, 0, none⟩)), (14, .string (strOf (metT put star))), (15, .string (strOf ([121])))]) ?_ ?_
    · refine CW.cond rfl (fun hc26 => ?_) (fun hc26 => ?_)
      · have hcb26 := hc26
        try simp only [decide_eq_true_eq, decide_eq_false_iff_not] at hc26
        -- region 6
        refine CW.region ?_
        refine RW.op1 rfl (runs_move rfl) ?_
        refine RW.op1 rfl (runs_addS rfl rfl (by cases put <;> decide)) ?_
        rw [show (ByteArray.mk #[44, 42]) = strOf [44, 42] from rfl, strOf_append]
        refine RW.op1 rfl (runs_assign rfl) ?_
        refine RW.done ?_
        exact AQ.meet () hst ⟨rfl, rfl, rfl, rfl, rfl, rfl, rfl, (by unfold metT; rw [hc26]; first | rfl | (rw [show (ByteArray.mk #[44, 42]) = strOf [44, 42] from rfl, strOf_append]; rfl) | simp; rfl), rfl, trivial⟩
      · have hcb26 := hc26
        try simp only [decide_eq_true_eq, decide_eq_false_iff_not] at hc26
        refine CW.skip ?_
        exact AQ.meet () hst ⟨rfl, rfl, rfl, rfl, rfl, rfl, rfl, (by unfold metT; rw [hc26]; first | rfl | (rw [show (ByteArray.mk #[44, 42]) = strOf [44, 42] from rfl, strOf_append]; rfl) | simp; rfl), rfl, trivial⟩
    · rintro _ w hstn
      clear hst
      have hst := hstn
      clear hstn
      refine AQ.next ?_
      refine CW.seq ?_
      refine CW.seq ?_
      -- region 7
      refine CW.region ?_
      refine RW.op1 rfl (runs_move rfl) ?_
      refine RW.done ?_
      refine AQ.next ?_
      refine CW.cut Unit (fun _ w => St w0 w I ((b2, Obj.cells (Value.agg #[.int .i64 200, .slice (some ⟨gA, 0, none⟩) 2 cA, .string ⟨#[]⟩, .bool false]).cells 35) :: (Lv1 ++ L))) (fun _ => [(0, .int .i64 m), (1, .bool put), (2, .bool star), (3, .bool x), (4, .bool all), (5, .bool creds), (13, .pointer (some ⟨b2, 0, none⟩)), (14, .string (strOf (metT put star))), (15, .string (strOf ([121] ++ (if x = true then [44, 120, 45, 111, 110, 101] else []))))]) ?_ ?_
      · refine CW.cond rfl (fun hc29 => ?_) (fun hc29 => ?_)
        · have hcb29 := hc29
          try simp only [decide_eq_true_eq, decide_eq_false_iff_not] at hc29
          -- region 8
          refine CW.region ?_
          refine RW.op1 rfl (runs_move rfl) ?_
          refine RW.op1 rfl (runs_addS rfl rfl (by decide)) ?_
          refine RW.op1 rfl (runs_assign rfl) ?_
          refine RW.done ?_
          exact AQ.meet () hst ⟨rfl, rfl, rfl, rfl, rfl, rfl, rfl, rfl, (by rw [hc29]; rfl), trivial⟩
        · have hcb29 := hc29
          try simp only [decide_eq_true_eq, decide_eq_false_iff_not] at hc29
          refine CW.skip ?_
          exact AQ.meet () hst ⟨rfl, rfl, rfl, rfl, rfl, rfl, rfl, rfl, (by rw [hc29]; rfl), trivial⟩
      · rintro _ w hstn
        clear hst
        have hst := hstn
        clear hstn
        refine AQ.next ?_
        refine CW.seq ?_
        refine CW.seq ?_
        -- region 9
        refine CW.region ?_
        refine RW.op1 rfl (runs_move rfl) ?_
        refine RW.done ?_
        refine AQ.next ?_
        refine CW.cut Unit (fun _ w => St w0 w I ((b2, Obj.cells (Value.agg #[.int .i64 200, .slice (some ⟨gA, 0, none⟩) 2 cA, .string ⟨#[]⟩, .bool false]).cells 35) :: (Lv1 ++ L))) (fun _ => [(0, .int .i64 m), (1, .bool put), (2, .bool star), (3, .bool x), (4, .bool all), (5, .bool creds), (13, .pointer (some ⟨b2, 0, none⟩)), (14, .string (strOf (metT put star))), (15, .string (strOf (hdT x all)))]) ?_ ?_
        · refine CW.cond rfl (fun hc32 => ?_) (fun hc32 => ?_)
          · have hcb32 := hc32
            try simp only [decide_eq_true_eq, decide_eq_false_iff_not] at hc32
            -- region 10
            refine CW.region ?_
            refine RW.op1 rfl (runs_move rfl) ?_
            refine RW.op1 rfl (runs_addS rfl rfl (by cases x <;> decide)) ?_
            rw [show (ByteArray.mk #[32, 44, 32, 42]) = strOf [32, 44, 32, 42] from rfl, strOf_append]
            refine RW.op1 rfl (runs_assign rfl) ?_
            refine RW.done ?_
            exact AQ.meet () hst ⟨rfl, rfl, rfl, rfl, rfl, rfl, rfl, rfl, (by unfold hdT; rw [hc32]; first | rfl | (rw [if_neg (show ¬ (false = true) by decide), List.append_nil]; rfl)), trivial⟩
          · have hcb32 := hc32
            try simp only [decide_eq_true_eq, decide_eq_false_iff_not] at hc32
            refine CW.skip ?_
            exact AQ.meet () hst ⟨rfl, rfl, rfl, rfl, rfl, rfl, rfl, rfl, (by unfold hdT; rw [hc32]; first | rfl | (rw [if_neg (show ¬ (false = true) by decide), List.append_nil]; rfl)), trivial⟩
        · rintro _ w hstn
          clear hst
          have hst := hstn
          clear hstn
          refine AQ.next ?_
          refine CW.seq ?_
          -- region 11
          refine CW.region ?_
          first
            | refine RW.op1 rfl (runs_fieldAddr0 rfl Tryd.underlying35 rfl ti31 (by decide)) ?_
            | refine RW.op1 rfl (runs_fieldAddr rfl Tryd.underlying35 rfl ti31 (by decide)) ?_
          first
            | refine RW.op1 rfl (runs_load1 sc31 rfl (hst.cell_own (k := 0) rfl rfl)) ?_
            | refine RW.op1 rfl (runs_load1 sc31 rfl (hst.cell_own (k := 1) rfl rfl)) ?_
            | refine RW.op1 rfl (runs_load1 sc31 rfl (hst.cell_own (k := 2) rfl rfl)) ?_
          refine RW.op1 rfl (runs_move rfl) ?_
          refine RW.op1 rfl (runs_buildF (cells := [_, _]) bz30 rfl rfl rfl rfl rfl) ?_
          refine RW.op1 rfl (runs_move rfl) ?_
          refine RW.op1 rfl (runs_buildF (cells := [_, _]) bz30 rfl rfl rfl rfl rfl) ?_
          refine RW.opE rfl (runs_litF (xs := [.agg #[_, _], .agg #[_, _]]) Tryd.underlying31 ti30 (by decide) rfl rfl rfl rfl rfl hst (by decide)) ?_
          rintro u4 w ⟨Lv4, hstn, hg4⟩
          clear hst
          have hst := hstn
          clear hstn
          obtain ⟨J4, hJ4, hstn, h4⟩ := Grow.freeze hg4 hst
          clear hst
          have hst := hstn
          clear hstn
          replace hM := hM.mono hJ4
          replace hle := hle.trans hJ4
          try simp only [List.nil_append] at h4
          replace h4 : RdH J4 u4 (([(methL, metT put star), (ahdsL, hdT x all)] : List HL).map hrowC) := h4
          have hR := h4
          refine RW.opE rfl (runs_appendRA [_] Tryd.underlying31 ti30 rfl (by decide) rfl rfl hst hg1 hR (by show (2 + 2) * 32 ≤ _; decide) (by show 2 + 2 ≤ maxLen; decide)) ?_
          rintro uN w ⟨LvN, hstn, hgN⟩
          clear hst
          have hst := hstn
          clear hstn
          replace hst : St w0 _ _ (_ :: (LvN ++ L)) := hst
          obtain ⟨JN, hJN, hstn, hvN⟩ := Grow.freeze hgN (hst.perm List.perm_middle.symm)
          clear hst
          have hst := hstn
          clear hstn
          replace hM := hM.mono hJN
          replace hR : RdH _ _ _ := RdL.mono hJN hR
          replace h4 : RdH _ _ _ := RdL.mono hJN h4
          replace hle := hle.trans hJN
          have hv : RdH JN uN ((mHl put star x all).map hrowC) := hvN
          obtain ⟨hA, hcap, rfl⟩ : ∃ A c, uN = .slice A ((mHl put star x all).map hrowC).length c := by obtain ⟨_, _, A, c, e, _⟩ := hv; exact ⟨A, c, e⟩
          first
            | refine RW.op1 rfl (runs_fieldAddr0 rfl Tryd.underlying35 rfl ti31 (by decide)) ?_
            | refine RW.op1 rfl (runs_fieldAddr rfl Tryd.underlying35 rfl ti31 (by decide)) ?_
          refine RW.opE0 (runs_store1P ti31 rfl rfl hst (k := 0) rfl rfl (NoFz.zero _) rfl) ?_
          rintro w hstn
          clear hst
          have hst := hstn
          clear hstn
          try simp only [List.set_cons_zero, List.set_cons_succ] at hst
          refine RW.done ?_
          refine AQ.next ?_
          refine CW.seq ?_
          -- region 12
          refine CW.region ?_
          refine RW.opE rfl (runs_lit1R Tryd.underlying23 ti9 (by decide) rfl rfl rfl (by simp [Value.oneCell']) hst) ?_
          rintro u7 w ⟨I7, hI7, hstn, h7⟩
          clear hst
          have hst := hstn
          clear hstn
          replace hM := hM.mono hI7
          replace h4 := h4.mono hI7
          replace hR := hR.mono hI7
          replace hv := hv.mono hI7
          replace hle := hle.trans hI7
          have hN : RdS _ u7 (mthL.map strOf) := h7
          refine RW.op1 rfl (runs_move rfl) ?_
          refine RW.call rfl call8 rfl rfl (within_spec hst (v := m) (n := 3) hm (by unfold i64ok; decide)) ?_
          rintro e w ⟨rfl, hstn⟩
          clear hst
          have hst := hstn
          clear hstn
          have r0 := within_range m 3
          have r0t := r0.2 (by decide)
          obtain ⟨j, hj⟩ : ∃ j : Nat, within m 3 = (j : Int) := ⟨(within m 3).toNat, by omega⟩
          rw [hj] at r0 r0t ⊢
          have hj3 : j < 3 := by omega
          obtain ⟨f1, f2, f3, f4⟩ := methods_all put star x all creds j hj3
          have es := sat_at mthL j
          have hmz : (mthL.getD j []).length ≤ 9223372036854775807 := Nat.le_trans ((show ∀ j, j < 3 → (mthL.getD j []).length ≤ 10 by decide) j hj3) (by decide)
          refine ⟨_, rfl, ?_⟩
          refine RW.op1 rfl (RdL.indexAddr Tryd.underlying23 ti9 (by decide) rfl rfl hN (by show 0 ≤ (j : Int) ∧ (j : Int) < 3; omega)) ?_
          refine RW.op1 rfl (runs_load1 sc9 rfl (hst.cell_imm (RdS.at hN (by omega) (by show (j : Int) < 3; omega)))) ?_
          rw [es]
          refine RW.op1 rfl (runs_assign rfl) ?_
          refine RW.done ?_
          refine AQ.next ?_
          refine CW.seq ?_
          -- region 13
          refine CW.cut Imm (fun J w => I.le J ∧ MaxK J ∧ RdH J (.slice hA ((mHl put star x all).map hrowC).length hcap) ((mHl put star x all).map hrowC) ∧ St w0 w J ((b2, Obj.cells (Value.agg #[.int .i64 200, .slice hA ((mHl put star x all).map hrowC).length hcap, .string ⟨#[]⟩, .bool false]).cells 35) :: L)) (fun _ => [(3, .bool x), (4, .bool all), (5, .bool creds), (13, .pointer (some ⟨b2, 0, none⟩)), (16, .string (strOf (mthL.getD j []))), (17, .bool (mayB j put star creds))]) ?_ ?_
          · -- region 13
            refine CW.region ?_
            refine RW.op1 rfl (runs_move rfl) ?_
            refine RW.op1 rfl (runs_neS rfl rfl) ?_
            rw [eqB]
            obtain ⟨q, hq⟩ : ∃ q, (mthL.getD j [] == [80, 85, 84]) = q := ⟨_, rfl⟩
            rw [hq]
            have hmay : mayB j put star creds = (!q || put || (star && !creds)) := by unfold mayB; rw [hq]
            refine RW.op1 rfl (runs_move rfl) ?_
            refine RW.split (t := 51) rfl (fun hb51 => ?_) (fun hb51 => ?_)
            · have hb51p := hb51
              try simp only [decide_eq_true_eq, decide_eq_false_iff_not] at hb51p
              refine RW.off_guard rfl rfl rfl rfl hb51 ?_
              refine RW.op1 rfl (runs_pick_true rfl hb51 rfl) ?_
              refine RW.op1 rfl (runs_move rfl) ?_
              refine RW.off_guard rfl rfl rfl rfl rfl ?_
              refine RW.off_guard rfl rfl rfl rfl rfl ?_
              refine RW.off_undef rfl rfl rfl rfl ?_
              refine RW.off_undef rfl rfl rfl rfl ?_
              refine RW.off_guard rfl rfl rfl rfl rfl ?_
              refine RW.op1 rfl (runs_pick_true rfl rfl rfl) ?_
              refine RW.op1 rfl (runs_assign rfl) ?_
              refine RW.done ?_
              exact AQ.meet _ ⟨hle, hM, hv, hst⟩ ⟨rfl, rfl, rfl, rfl, rfl, congrArg (fun z => some (Value.bool z)) (by rw [hmay]; clear f1 f2 f3 f4 hmay hst hv hq es hmz; cases q <;> cases put <;> cases star <;> cases creds <;> first | rfl | (simp at hb51; done) | (simp at hb54; done) | (simp at hb56; done) | simp_all), trivial⟩
            · have hb51p := hb51
              try simp only [decide_eq_true_eq, decide_eq_false_iff_not] at hb51p
              refine RW.on_guard rfl rfl rfl rfl hb51 ?_
              refine RW.op1 rfl (runs_move rfl) ?_
              refine RW.op1 rfl (runs_pick_false rfl hb51 rfl) ?_
              refine RW.op1 rfl (runs_move rfl) ?_
              refine RW.split (t := 54) rfl (fun hb54 => ?_) (fun hb54 => ?_)
              · have hb54p := hb54
                try simp only [decide_eq_true_eq, decide_eq_false_iff_not] at hb54p
                refine RW.off_guard rfl rfl rfl rfl hb54 ?_
                refine RW.off_guard rfl rfl rfl rfl hb54 ?_
                refine RW.off_undef rfl rfl rfl rfl ?_
                refine RW.off_undef rfl rfl rfl rfl ?_
                refine RW.off_guard rfl rfl rfl rfl hb54 ?_
                refine RW.op1 rfl (runs_pick_true rfl hb54 rfl) ?_
                refine RW.op1 rfl (runs_assign rfl) ?_
                refine RW.done ?_
                exact AQ.meet _ ⟨hle, hM, hv, hst⟩ ⟨rfl, rfl, rfl, rfl, rfl, congrArg (fun z => some (Value.bool z)) (by rw [hmay]; clear f1 f2 f3 f4 hmay hst hv hq es hmz; cases q <;> cases put <;> cases star <;> cases creds <;> first | rfl | (simp at hb51; done) | (simp at hb54; done) | (simp at hb56; done) | simp_all), trivial⟩
              · have hb54p := hb54
                try simp only [decide_eq_true_eq, decide_eq_false_iff_not] at hb54p
                refine RW.on_guard rfl rfl rfl rfl hb54 ?_
                refine RW.op1 rfl (runs_move rfl) ?_
                refine RW.on_guard rfl rfl rfl rfl hb54 ?_
                refine RW.op1 rfl (runs_move rfl) ?_
                refine RW.split (t := 56) rfl (fun hb56 => ?_) (fun hb56 => ?_)
                · have hb56p := hb56
                  try simp only [decide_eq_true_eq, decide_eq_false_iff_not] at hb56p
                  refine RW.on_guard rfl rfl rfl rfl hb56 ?_
                  refine RW.op1 rfl (runs_move rfl) ?_
                  refine RW.on_guard rfl rfl rfl rfl hb56 ?_
                  refine RW.op1 rfl (runs_not rfl) ?_
                  refine RW.on_guard rfl rfl rfl rfl hb54 ?_
                  refine RW.op1 rfl (runs_pick_true rfl hb56 rfl) ?_
                  refine RW.op1 rfl (runs_pick_false rfl hb54 rfl) ?_
                  refine RW.op1 rfl (runs_assign rfl) ?_
                  refine RW.done ?_
                  exact AQ.meet _ ⟨hle, hM, hv, hst⟩ ⟨rfl, rfl, rfl, rfl, rfl, congrArg (fun z => some (Value.bool z)) (by rw [hmay]; clear f1 f2 f3 f4 hmay hst hv hq es hmz; cases q <;> cases put <;> cases star <;> cases creds <;> first | rfl | (simp at hb51; done) | (simp at hb54; done) | (simp at hb56; done) | simp_all), trivial⟩
                · have hb56p := hb56
                  try simp only [decide_eq_true_eq, decide_eq_false_iff_not] at hb56p
                  refine RW.off_guard rfl rfl rfl rfl hb56 ?_
                  refine RW.off_guard rfl rfl rfl rfl hb56 ?_
                  refine RW.on_guard rfl rfl rfl rfl hb54 ?_
                  refine RW.op1 rfl (runs_pick_false rfl hb56 rfl) ?_
                  refine RW.op1 rfl (runs_pick_false rfl hb54 rfl) ?_
                  refine RW.op1 rfl (runs_assign rfl) ?_
                  refine RW.done ?_
                  exact AQ.meet _ ⟨hle, hM, hv, hst⟩ ⟨rfl, rfl, rfl, rfl, rfl, congrArg (fun z => some (Value.bool z)) (by rw [hmay]; clear f1 f2 f3 f4 hmay hst hv hq es hmz; cases q <;> cases put <;> cases star <;> cases creds <;> first | rfl | (simp at hb51; done) | (simp at hb54; done) | (simp at hb56; done) | simp_all), trivial⟩
          · clear hle hM hv hst
            rintro J5 w ⟨hle, hM, hv, hst⟩
            refine AQ.next ?_
            refine CW.seq ?_
            -- region 14
            refine CW.region ?_
            refine RW.op1 rfl (runs_buildF (cells := [_, _]) bz30 rfl rfl rfl rfl rfl) ?_
            refine RW.opE rfl (runs_alloc ti30 hst) ?_
            rintro _ w ⟨b9, rfl, hstn⟩
            clear hst
            have hst := hstn
            clear hstn
            first
              | refine RW.opE0 (runs_storeW ti30 rfl rfl hst (k := 0) rfl rfl rfl (NoFz.zero _) rfl) ?_
              | refine RW.opE0 (runs_storeP ti30 rfl rfl hst (k := 0) rfl rfl rfl (NoFz.zero _) rfl) ?_
              | refine RW.opE0 (runs_storeW ti30 rfl rfl hst (k := 1) rfl rfl rfl (NoFz.zero _) rfl) ?_
              | refine RW.opE0 (runs_storeP ti30 rfl rfl hst (k := 1) rfl rfl rfl (NoFz.zero _) rfl) ?_
              | refine RW.opE0 (runs_storeW ti30 rfl rfl hst (k := 2) rfl rfl rfl (NoFz.zero _) rfl) ?_
              | refine RW.opE0 (runs_storeP ti30 rfl rfl hst (k := 2) rfl rfl rfl (NoFz.zero _) rfl) ?_
            rintro w hstn
            clear hst
            have hst := hstn
            clear hstn
            try simp only [List.set_cons_zero, List.set_cons_succ] at hst
            refine RW.done ?_
            refine AQ.next ?_
            refine CW.seq ?_
            -- region 15
            refine CW.region ?_
            first
              | refine RW.op1 rfl (runs_loadN (vs := [_, _, _, _]) ag35 ti35 rfl hst (k := 0) rfl rfl rfl) ?_
              | refine RW.op1 rfl (runs_loadN (vs := [_, _, _, _]) ag35 ti35 rfl hst (k := 1) rfl rfl rfl) ?_
              | refine RW.op1 rfl (runs_loadN (vs := [_, _, _, _]) ag35 ti35 rfl hst (k := 2) rfl rfl rfl) ?_
            refine RW.op1 rfl (runs_move rfl) ?_
            refine RW.op1 rfl (runs_move rfl) ?_
            refine RW.call rfl call13 rfl rfl (pre_spec hst hM hv (mHl_ok put star x all) 200 ⟨#[]⟩ false (show RdH _ (.slice none 0 0) (([] : List HL).map hrowC) from RdL.nil 2) HB.nil (ByteArray.mk (ohL).toArray) (strOf (mthL.getD j [])) (by rw [strOfZ]; exact hmz) creds) ?_
            rintro e w ⟨I11, hI11, rfl, hstn⟩
            clear hst
            have hst := hstn
            clear hstn
            rw [preE [] f1]
            replace hM := hM.mono hI11
            replace hv := hv.mono hI11
            replace hle := hle.trans hI11
            refine ⟨_, rfl, ?_⟩
            refine RW.op1 rfl (runs_move rfl) ?_
            refine RW.op1 rfl (runs_eqB Tryd.underlying4 rfl rfl) ?_
            refine RW.op1 rfl (runs_move rfl) ?_
            have hk68 := (show (mayB j put star creds == mayB j put star creds) = true by simp)
            refine RW.on_guard rfl rfl rfl rfl hk68 ?_
            first
              | refine RW.op1 rfl (runs_loadN (vs := [_, _, _, _]) ag35 ti35 rfl hst (k := 0) rfl rfl rfl) ?_
              | refine RW.op1 rfl (runs_loadN (vs := [_, _, _, _]) ag35 ti35 rfl hst (k := 1) rfl rfl rfl) ?_
              | refine RW.op1 rfl (runs_loadN (vs := [_, _, _, _]) ag35 ti35 rfl hst (k := 2) rfl rfl rfl) ?_
            refine RW.on_guard rfl rfl rfl rfl hk68 ?_
            refine RW.op1 rfl (runs_move rfl) ?_
            refine RW.on_guard rfl rfl rfl rfl hk68 ?_
            refine RW.op1 rfl (runs_move rfl) ?_
            refine RW.on_guard rfl rfl rfl rfl hk68 ?_
            first
              | refine RW.op1 rfl (runs_loadN (vs := [_, _]) ag30 ti30 rfl hst (k := 0) rfl rfl rfl) ?_
              | refine RW.op1 rfl (runs_loadN (vs := [_, _]) ag30 ti30 rfl hst (k := 1) rfl rfl rfl) ?_
              | refine RW.op1 rfl (runs_loadN (vs := [_, _]) ag30 ti30 rfl hst (k := 2) rfl rfl rfl) ?_
            refine RW.on_guard rfl rfl rfl rfl hk68 ?_
            refine RW.opE rfl (runs_litF (xs := [.agg #[_, _]]) Tryd.underlying31 ti30 (by decide) rfl rfl rfl rfl rfl hst (by decide)) ?_
            rintro u12 w ⟨Lv12, hstn, hg12⟩
            clear hst
            have hst := hstn
            clear hstn
            obtain ⟨J12, hJ12, hstn, h12⟩ := Grow.freeze hg12 hst
            clear hst
            have hst := hstn
            clear hstn
            replace hM := hM.mono hJ12
            replace hv := hv.mono hJ12
            replace hle := hle.trans hJ12
            try simp only [List.nil_append] at h12
            replace h12 : RdH J12 u12 (([oneH] : List HL).map hrowC) := h12
            have hL1 := h12
            refine RW.on_guard rfl rfl rfl rfl hk68 ?_
            refine RW.call rfl call13 rfl rfl (pre_spec hst hM hv (mHl_ok put star x all) 200 ⟨#[]⟩ false hL1 (HB.ofC (by decide) (by decide)) (ByteArray.mk (ohL).toArray) (strOf (mthL.getD j [])) (by rw [strOfZ]; exact hmz) creds) ?_
            rintro e w ⟨I13, hI13, rfl, hstn⟩
            clear hst
            have hst := hstn
            clear hstn
            rw [preE [oneH] f2]
            replace hM := hM.mono hI13
            replace hv := hv.mono hI13
            replace h12 := h12.mono hI13
            replace hL1 := hL1.mono hI13
            replace hle := hle.trans hI13
            refine ⟨_, rfl, ?_⟩
            refine RW.on_guard rfl rfl rfl rfl hk68 ?_
            refine RW.op1 rfl (runs_move rfl) ?_
            refine RW.on_guard rfl rfl rfl rfl hk68 ?_
            refine RW.op1 rfl (runs_move rfl) ?_
            refine RW.split (t := 76) rfl (fun hb76 => ?_) (fun hb76 => ?_)
            · have hb76p := hb76
              try simp only [decide_eq_true_eq, decide_eq_false_iff_not] at hb76p
              refine RW.on_guard rfl rfl rfl rfl hb76 ?_
              refine RW.op1 rfl (runs_move rfl) ?_
              refine RW.on_guard rfl rfl rfl rfl hb76 ?_
              refine RW.op1 rfl (runs_move rfl) ?_
              refine RW.split (t := 78) rfl (fun hb78 => ?_) (fun hb78 => ?_)
              · have hb78p := hb78
                try simp only [decide_eq_true_eq, decide_eq_false_iff_not] at hb78p
                refine RW.off_guard rfl rfl rfl rfl hb78 ?_
                refine RW.off_guard rfl rfl rfl rfl hb78 ?_
                refine RW.off_undef rfl rfl rfl rfl ?_
                refine RW.off_undef rfl rfl rfl rfl ?_
                refine RW.off_guard rfl rfl rfl rfl hb78 ?_
                refine RW.on_guard rfl rfl rfl rfl hb76 ?_
                refine RW.op1 rfl (runs_pick_true rfl hb78 rfl) ?_
                refine RW.on_guard rfl rfl rfl rfl hk68 ?_
                refine RW.op1 rfl (runs_pick_true rfl hb76 rfl) ?_
                refine RW.on_guard rfl rfl rfl rfl hk68 ?_
                refine RW.op1 rfl (runs_eqB Tryd.underlying4 rfl rfl) ?_
                refine RW.op1 rfl (runs_pick_true rfl hk68 rfl) ?_
                refine RW.op1 rfl (runs_move rfl) ?_
                have hk88 := (show ((mayB j put star creds && (x || (all && !creds))) == true) = true by rw [hb76, hb78]; rfl)
                refine RW.on_guard rfl rfl rfl rfl hk88 ?_
                first
                  | refine RW.op1 rfl (runs_loadN (vs := [_, _, _, _]) ag35 ti35 rfl hst (k := 0) rfl rfl rfl) ?_
                  | refine RW.op1 rfl (runs_loadN (vs := [_, _, _, _]) ag35 ti35 rfl hst (k := 1) rfl rfl rfl) ?_
                  | refine RW.op1 rfl (runs_loadN (vs := [_, _, _, _]) ag35 ti35 rfl hst (k := 2) rfl rfl rfl) ?_
                refine RW.on_guard rfl rfl rfl rfl hk88 ?_
                refine RW.op1 rfl (runs_move rfl) ?_
                refine RW.on_guard rfl rfl rfl rfl hk88 ?_
                refine RW.op1 rfl (runs_move rfl) ?_
                refine RW.on_guard rfl rfl rfl rfl hk88 ?_
                refine RW.op1 rfl (runs_buildF (cells := [_, _]) bz30 rfl rfl rfl rfl rfl) ?_
                refine RW.on_guard rfl rfl rfl rfl hk88 ?_
                refine RW.opE rfl (runs_litF (xs := [.agg #[_, _]]) Tryd.underlying31 ti30 (by decide) rfl rfl rfl rfl rfl hst (by decide)) ?_
                rintro u14 w ⟨Lv14, hstn, hg14⟩
                clear hst
                have hst := hstn
                clear hstn
                obtain ⟨J14, hJ14, hstn, h14⟩ := Grow.freeze hg14 hst
                clear hst
                have hst := hstn
                clear hstn
                replace hM := hM.mono hJ14
                replace hv := hv.mono hJ14
                replace h12 := h12.mono hJ14
                replace hL1 := hL1.mono hJ14
                replace hle := hle.trans hJ14
                try simp only [List.nil_append] at h14
                replace h14 : RdH J14 u14 (([accH] : List HL).map hrowC) := h14
                have hL2 := h14
                refine RW.on_guard rfl rfl rfl rfl hk88 ?_
                refine RW.call rfl call13 rfl rfl (pre_spec hst hM hv (mHl_ok put star x all) 200 ⟨#[]⟩ false hL2 (HB.ofC (by decide) (by decide)) (ByteArray.mk (ohL).toArray) (strOf (mthL.getD j [])) (by rw [strOfZ]; exact hmz) creds) ?_
                rintro e w ⟨I15, hI15, rfl, hstn⟩
                clear hst
                have hst := hstn
                clear hstn
                rw [preE [accH] f3]
                replace hM := hM.mono hI15
                replace hv := hv.mono hI15
                replace h12 := h12.mono hI15
                replace hL1 := hL1.mono hI15
                replace h14 := h14.mono hI15
                replace hL2 := hL2.mono hI15
                replace hle := hle.trans hI15
                refine ⟨_, rfl, ?_⟩
                refine RW.on_guard rfl rfl rfl rfl hk88 ?_
                refine RW.op1 rfl (runs_move rfl) ?_
                refine RW.on_guard rfl rfl rfl rfl hk88 ?_
                refine RW.op1 rfl (runs_eqB Tryd.underlying4 rfl rfl) ?_
                refine RW.op1 rfl (runs_pick_true rfl hk88 rfl) ?_
                refine RW.op1 rfl (runs_move rfl) ?_
                have hk98 := (show (mayB j put star creds == mayB j put star creds) = true by simp)
                refine RW.on_guard rfl rfl rfl rfl hk98 ?_
                first
                  | refine RW.op1 rfl (runs_loadN (vs := [_, _, _, _]) ag35 ti35 rfl hst (k := 0) rfl rfl rfl) ?_
                  | refine RW.op1 rfl (runs_loadN (vs := [_, _, _, _]) ag35 ti35 rfl hst (k := 1) rfl rfl rfl) ?_
                  | refine RW.op1 rfl (runs_loadN (vs := [_, _, _, _]) ag35 ti35 rfl hst (k := 2) rfl rfl rfl) ?_
                refine RW.on_guard rfl rfl rfl rfl hk98 ?_
                refine RW.op1 rfl (runs_move rfl) ?_
                refine RW.on_guard rfl rfl rfl rfl hk98 ?_
                refine RW.op1 rfl (runs_move rfl) ?_
                refine RW.on_guard rfl rfl rfl rfl hk98 ?_
                refine RW.call rfl call13 rfl rfl (pre_spec hst hM hv (mHl_ok put star x all) 200 ⟨#[]⟩ false (show RdH _ (.slice none 0 0) (([] : List HL).map hrowC) from RdL.nil 2) HB.nil (ByteArray.mk (cdL).toArray) (strOf (mthL.getD j [])) (by rw [strOfZ]; exact hmz) creds) ?_
                rintro e w ⟨I16, hI16, rfl, hstn⟩
                clear hst
                have hst := hstn
                clear hstn
                rw [preE [] f4]
                replace hM := hM.mono hI16
                replace hv := hv.mono hI16
                replace h12 := h12.mono hI16
                replace hL1 := hL1.mono hI16
                replace h14 := h14.mono hI16
                replace hL2 := hL2.mono hI16
                replace hle := hle.trans hI16
                refine ⟨_, rfl, ?_⟩
                refine RW.on_guard rfl rfl rfl rfl hk98 ?_
                refine RW.op1 rfl (runs_not rfl) ?_
                refine RW.op1 rfl (runs_pick_true rfl hk98 rfl) ?_
                refine RW.op1 rfl (runs_move rfl) ?_
                have hk105 := (show (!false) = true from rfl)
                refine RW.on_guard rfl rfl rfl rfl hk105 ?_
                refine RW.call rfl call11 rfl rfl (wakes13_spec hst hM) ?_
                rintro e w ⟨rfl, I17, hI17, hstn⟩
                clear hst
                have hst := hstn
                clear hstn
                replace hM := hM.mono hI17
                replace hv := hv.mono hI17
                replace h12 := h12.mono hI17
                replace hL1 := hL1.mono hI17
                replace h14 := h14.mono hI17
                replace hL2 := hL2.mono hI17
                replace hle := hle.trans hI17
                refine ⟨_, rfl, ?_⟩
                refine RW.op1 rfl (runs_pick_true rfl hk105 rfl) ?_
                refine RW.op1 rfl (runs_assign rfl) ?_
                refine RW.done ?_
                refine AQ.next ?_
                refine CW.ret ?_
                refine AQ.ret1 rfl rfl ?_
                exact ⟨rfl, _, hle, hst.drop1.drop1⟩
              · have hb78p := hb78
                try simp only [decide_eq_true_eq, decide_eq_false_iff_not] at hb78p
                refine RW.on_guard rfl rfl rfl rfl hb78 ?_
                refine RW.op1 rfl (runs_move rfl) ?_
                refine RW.on_guard rfl rfl rfl rfl hb78 ?_
                refine RW.op1 rfl (runs_move rfl) ?_
                refine RW.split (t := 80) rfl (fun hb80 => ?_) (fun hb80 => ?_)
                · have hb80p := hb80
                  try simp only [decide_eq_true_eq, decide_eq_false_iff_not] at hb80p
                  refine RW.on_guard rfl rfl rfl rfl hb80 ?_
                  refine RW.op1 rfl (runs_move rfl) ?_
                  refine RW.on_guard rfl rfl rfl rfl hb80 ?_
                  refine RW.op1 rfl (runs_not rfl) ?_
                  refine RW.on_guard rfl rfl rfl rfl hb78 ?_
                  refine RW.op1 rfl (runs_pick_true rfl hb80 rfl) ?_
                  refine RW.on_guard rfl rfl rfl rfl hb76 ?_
                  refine RW.op1 rfl (runs_pick_false rfl hb78 rfl) ?_
                  refine RW.on_guard rfl rfl rfl rfl hk68 ?_
                  refine RW.op1 rfl (runs_pick_true rfl hb76 rfl) ?_
                  refine RW.on_guard rfl rfl rfl rfl hk68 ?_
                  refine RW.op1 rfl (runs_eqB Tryd.underlying4 rfl rfl) ?_
                  refine RW.op1 rfl (runs_pick_true rfl hk68 rfl) ?_
                  refine RW.op1 rfl (runs_move rfl) ?_
                  have hk88 := (show ((mayB j put star creds && (x || (all && !creds))) == !creds) = true by rw [hb76, hb78, hb80]; cases creds <;> rfl)
                  refine RW.on_guard rfl rfl rfl rfl hk88 ?_
                  first
                    | refine RW.op1 rfl (runs_loadN (vs := [_, _, _, _]) ag35 ti35 rfl hst (k := 0) rfl rfl rfl) ?_
                    | refine RW.op1 rfl (runs_loadN (vs := [_, _, _, _]) ag35 ti35 rfl hst (k := 1) rfl rfl rfl) ?_
                    | refine RW.op1 rfl (runs_loadN (vs := [_, _, _, _]) ag35 ti35 rfl hst (k := 2) rfl rfl rfl) ?_
                  refine RW.on_guard rfl rfl rfl rfl hk88 ?_
                  refine RW.op1 rfl (runs_move rfl) ?_
                  refine RW.on_guard rfl rfl rfl rfl hk88 ?_
                  refine RW.op1 rfl (runs_move rfl) ?_
                  refine RW.on_guard rfl rfl rfl rfl hk88 ?_
                  refine RW.op1 rfl (runs_buildF (cells := [_, _]) bz30 rfl rfl rfl rfl rfl) ?_
                  refine RW.on_guard rfl rfl rfl rfl hk88 ?_
                  refine RW.opE rfl (runs_litF (xs := [.agg #[_, _]]) Tryd.underlying31 ti30 (by decide) rfl rfl rfl rfl rfl hst (by decide)) ?_
                  rintro u18 w ⟨Lv18, hstn, hg18⟩
                  clear hst
                  have hst := hstn
                  clear hstn
                  obtain ⟨J18, hJ18, hstn, h18⟩ := Grow.freeze hg18 hst
                  clear hst
                  have hst := hstn
                  clear hstn
                  replace hM := hM.mono hJ18
                  replace hv := hv.mono hJ18
                  replace h12 := h12.mono hJ18
                  replace hL1 := hL1.mono hJ18
                  replace hle := hle.trans hJ18
                  try simp only [List.nil_append] at h18
                  replace h18 : RdH J18 u18 (([accH] : List HL).map hrowC) := h18
                  have hL2 := h18
                  refine RW.on_guard rfl rfl rfl rfl hk88 ?_
                  refine RW.call rfl call13 rfl rfl (pre_spec hst hM hv (mHl_ok put star x all) 200 ⟨#[]⟩ false hL2 (HB.ofC (by decide) (by decide)) (ByteArray.mk (ohL).toArray) (strOf (mthL.getD j [])) (by rw [strOfZ]; exact hmz) creds) ?_
                  rintro e w ⟨I19, hI19, rfl, hstn⟩
                  clear hst
                  have hst := hstn
                  clear hstn
                  rw [preE [accH] f3]
                  replace hM := hM.mono hI19
                  replace hv := hv.mono hI19
                  replace h12 := h12.mono hI19
                  replace hL1 := hL1.mono hI19
                  replace h18 := h18.mono hI19
                  replace hL2 := hL2.mono hI19
                  replace hle := hle.trans hI19
                  refine ⟨_, rfl, ?_⟩
                  refine RW.on_guard rfl rfl rfl rfl hk88 ?_
                  refine RW.op1 rfl (runs_move rfl) ?_
                  refine RW.on_guard rfl rfl rfl rfl hk88 ?_
                  refine RW.op1 rfl (runs_eqB Tryd.underlying4 rfl rfl) ?_
                  refine RW.op1 rfl (runs_pick_true rfl hk88 rfl) ?_
                  refine RW.op1 rfl (runs_move rfl) ?_
                  have hk98 := (show (mayB j put star creds == mayB j put star creds) = true by simp)
                  refine RW.on_guard rfl rfl rfl rfl hk98 ?_
                  first
                    | refine RW.op1 rfl (runs_loadN (vs := [_, _, _, _]) ag35 ti35 rfl hst (k := 0) rfl rfl rfl) ?_
                    | refine RW.op1 rfl (runs_loadN (vs := [_, _, _, _]) ag35 ti35 rfl hst (k := 1) rfl rfl rfl) ?_
                    | refine RW.op1 rfl (runs_loadN (vs := [_, _, _, _]) ag35 ti35 rfl hst (k := 2) rfl rfl rfl) ?_
                  refine RW.on_guard rfl rfl rfl rfl hk98 ?_
                  refine RW.op1 rfl (runs_move rfl) ?_
                  refine RW.on_guard rfl rfl rfl rfl hk98 ?_
                  refine RW.op1 rfl (runs_move rfl) ?_
                  refine RW.on_guard rfl rfl rfl rfl hk98 ?_
                  refine RW.call rfl call13 rfl rfl (pre_spec hst hM hv (mHl_ok put star x all) 200 ⟨#[]⟩ false (show RdH _ (.slice none 0 0) (([] : List HL).map hrowC) from RdL.nil 2) HB.nil (ByteArray.mk (cdL).toArray) (strOf (mthL.getD j [])) (by rw [strOfZ]; exact hmz) creds) ?_
                  rintro e w ⟨I20, hI20, rfl, hstn⟩
                  clear hst
                  have hst := hstn
                  clear hstn
                  rw [preE [] f4]
                  replace hM := hM.mono hI20
                  replace hv := hv.mono hI20
                  replace h12 := h12.mono hI20
                  replace hL1 := hL1.mono hI20
                  replace h18 := h18.mono hI20
                  replace hL2 := hL2.mono hI20
                  replace hle := hle.trans hI20
                  refine ⟨_, rfl, ?_⟩
                  refine RW.on_guard rfl rfl rfl rfl hk98 ?_
                  refine RW.op1 rfl (runs_not rfl) ?_
                  refine RW.op1 rfl (runs_pick_true rfl hk98 rfl) ?_
                  refine RW.op1 rfl (runs_move rfl) ?_
                  have hk105 := (show (!false) = true from rfl)
                  refine RW.on_guard rfl rfl rfl rfl hk105 ?_
                  refine RW.call rfl call11 rfl rfl (wakes13_spec hst hM) ?_
                  rintro e w ⟨rfl, I21, hI21, hstn⟩
                  clear hst
                  have hst := hstn
                  clear hstn
                  replace hM := hM.mono hI21
                  replace hv := hv.mono hI21
                  replace h12 := h12.mono hI21
                  replace hL1 := hL1.mono hI21
                  replace h18 := h18.mono hI21
                  replace hL2 := hL2.mono hI21
                  replace hle := hle.trans hI21
                  refine ⟨_, rfl, ?_⟩
                  refine RW.op1 rfl (runs_pick_true rfl hk105 rfl) ?_
                  refine RW.op1 rfl (runs_assign rfl) ?_
                  refine RW.done ?_
                  refine AQ.next ?_
                  refine CW.ret ?_
                  refine AQ.ret1 rfl rfl ?_
                  exact ⟨rfl, _, hle, hst.drop1.drop1⟩
                · have hb80p := hb80
                  try simp only [decide_eq_true_eq, decide_eq_false_iff_not] at hb80p
                  refine RW.off_guard rfl rfl rfl rfl hb80 ?_
                  refine RW.off_guard rfl rfl rfl rfl hb80 ?_
                  refine RW.on_guard rfl rfl rfl rfl hb78 ?_
                  refine RW.op1 rfl (runs_pick_false rfl hb80 rfl) ?_
                  refine RW.on_guard rfl rfl rfl rfl hb76 ?_
                  refine RW.op1 rfl (runs_pick_false rfl hb78 rfl) ?_
                  refine RW.on_guard rfl rfl rfl rfl hk68 ?_
                  refine RW.op1 rfl (runs_pick_true rfl hb76 rfl) ?_
                  refine RW.on_guard rfl rfl rfl rfl hk68 ?_
                  refine RW.op1 rfl (runs_eqB Tryd.underlying4 rfl rfl) ?_
                  refine RW.op1 rfl (runs_pick_true rfl hk68 rfl) ?_
                  refine RW.op1 rfl (runs_move rfl) ?_
                  have hk88 := (show ((mayB j put star creds && (x || (all && !creds))) == false) = true by rw [hb76, hb78, hb80]; rfl)
                  refine RW.on_guard rfl rfl rfl rfl hk88 ?_
                  first
                    | refine RW.op1 rfl (runs_loadN (vs := [_, _, _, _]) ag35 ti35 rfl hst (k := 0) rfl rfl rfl) ?_
                    | refine RW.op1 rfl (runs_loadN (vs := [_, _, _, _]) ag35 ti35 rfl hst (k := 1) rfl rfl rfl) ?_
                    | refine RW.op1 rfl (runs_loadN (vs := [_, _, _, _]) ag35 ti35 rfl hst (k := 2) rfl rfl rfl) ?_
                  refine RW.on_guard rfl rfl rfl rfl hk88 ?_
                  refine RW.op1 rfl (runs_move rfl) ?_
                  refine RW.on_guard rfl rfl rfl rfl hk88 ?_
                  refine RW.op1 rfl (runs_move rfl) ?_
                  refine RW.on_guard rfl rfl rfl rfl hk88 ?_
                  refine RW.op1 rfl (runs_buildF (cells := [_, _]) bz30 rfl rfl rfl rfl rfl) ?_
                  refine RW.on_guard rfl rfl rfl rfl hk88 ?_
                  refine RW.opE rfl (runs_litF (xs := [.agg #[_, _]]) Tryd.underlying31 ti30 (by decide) rfl rfl rfl rfl rfl hst (by decide)) ?_
                  rintro u22 w ⟨Lv22, hstn, hg22⟩
                  clear hst
                  have hst := hstn
                  clear hstn
                  obtain ⟨J22, hJ22, hstn, h22⟩ := Grow.freeze hg22 hst
                  clear hst
                  have hst := hstn
                  clear hstn
                  replace hM := hM.mono hJ22
                  replace hv := hv.mono hJ22
                  replace h12 := h12.mono hJ22
                  replace hL1 := hL1.mono hJ22
                  replace hle := hle.trans hJ22
                  try simp only [List.nil_append] at h22
                  replace h22 : RdH J22 u22 (([accH] : List HL).map hrowC) := h22
                  have hL2 := h22
                  refine RW.on_guard rfl rfl rfl rfl hk88 ?_
                  refine RW.call rfl call13 rfl rfl (pre_spec hst hM hv (mHl_ok put star x all) 200 ⟨#[]⟩ false hL2 (HB.ofC (by decide) (by decide)) (ByteArray.mk (ohL).toArray) (strOf (mthL.getD j [])) (by rw [strOfZ]; exact hmz) creds) ?_
                  rintro e w ⟨I23, hI23, rfl, hstn⟩
                  clear hst
                  have hst := hstn
                  clear hstn
                  rw [preE [accH] f3]
                  replace hM := hM.mono hI23
                  replace hv := hv.mono hI23
                  replace h12 := h12.mono hI23
                  replace hL1 := hL1.mono hI23
                  replace h22 := h22.mono hI23
                  replace hL2 := hL2.mono hI23
                  replace hle := hle.trans hI23
                  refine ⟨_, rfl, ?_⟩
                  refine RW.on_guard rfl rfl rfl rfl hk88 ?_
                  refine RW.op1 rfl (runs_move rfl) ?_
                  refine RW.on_guard rfl rfl rfl rfl hk88 ?_
                  refine RW.op1 rfl (runs_eqB Tryd.underlying4 rfl rfl) ?_
                  refine RW.op1 rfl (runs_pick_true rfl hk88 rfl) ?_
                  refine RW.op1 rfl (runs_move rfl) ?_
                  have hk98 := (show (mayB j put star creds == mayB j put star creds) = true by simp)
                  refine RW.on_guard rfl rfl rfl rfl hk98 ?_
                  first
                    | refine RW.op1 rfl (runs_loadN (vs := [_, _, _, _]) ag35 ti35 rfl hst (k := 0) rfl rfl rfl) ?_
                    | refine RW.op1 rfl (runs_loadN (vs := [_, _, _, _]) ag35 ti35 rfl hst (k := 1) rfl rfl rfl) ?_
                    | refine RW.op1 rfl (runs_loadN (vs := [_, _, _, _]) ag35 ti35 rfl hst (k := 2) rfl rfl rfl) ?_
                  refine RW.on_guard rfl rfl rfl rfl hk98 ?_
                  refine RW.op1 rfl (runs_move rfl) ?_
                  refine RW.on_guard rfl rfl rfl rfl hk98 ?_
                  refine RW.op1 rfl (runs_move rfl) ?_
                  refine RW.on_guard rfl rfl rfl rfl hk98 ?_
                  refine RW.call rfl call13 rfl rfl (pre_spec hst hM hv (mHl_ok put star x all) 200 ⟨#[]⟩ false (show RdH _ (.slice none 0 0) (([] : List HL).map hrowC) from RdL.nil 2) HB.nil (ByteArray.mk (cdL).toArray) (strOf (mthL.getD j [])) (by rw [strOfZ]; exact hmz) creds) ?_
                  rintro e w ⟨I24, hI24, rfl, hstn⟩
                  clear hst
                  have hst := hstn
                  clear hstn
                  rw [preE [] f4]
                  replace hM := hM.mono hI24
                  replace hv := hv.mono hI24
                  replace h12 := h12.mono hI24
                  replace hL1 := hL1.mono hI24
                  replace h22 := h22.mono hI24
                  replace hL2 := hL2.mono hI24
                  replace hle := hle.trans hI24
                  refine ⟨_, rfl, ?_⟩
                  refine RW.on_guard rfl rfl rfl rfl hk98 ?_
                  refine RW.op1 rfl (runs_not rfl) ?_
                  refine RW.op1 rfl (runs_pick_true rfl hk98 rfl) ?_
                  refine RW.op1 rfl (runs_move rfl) ?_
                  have hk105 := (show (!false) = true from rfl)
                  refine RW.on_guard rfl rfl rfl rfl hk105 ?_
                  refine RW.call rfl call11 rfl rfl (wakes13_spec hst hM) ?_
                  rintro e w ⟨rfl, I25, hI25, hstn⟩
                  clear hst
                  have hst := hstn
                  clear hstn
                  replace hM := hM.mono hI25
                  replace hv := hv.mono hI25
                  replace h12 := h12.mono hI25
                  replace hL1 := hL1.mono hI25
                  replace h22 := h22.mono hI25
                  replace hL2 := hL2.mono hI25
                  replace hle := hle.trans hI25
                  refine ⟨_, rfl, ?_⟩
                  refine RW.op1 rfl (runs_pick_true rfl hk105 rfl) ?_
                  refine RW.op1 rfl (runs_assign rfl) ?_
                  refine RW.done ?_
                  refine AQ.next ?_
                  refine CW.ret ?_
                  refine AQ.ret1 rfl rfl ?_
                  exact ⟨rfl, _, hle, hst.drop1.drop1⟩
            · have hb76p := hb76
              try simp only [decide_eq_true_eq, decide_eq_false_iff_not] at hb76p
              refine RW.off_guard rfl rfl rfl rfl hb76 ?_
              refine RW.off_guard rfl rfl rfl rfl hb76 ?_
              refine RW.off_undef rfl rfl rfl rfl ?_
              refine RW.off_undef rfl rfl rfl rfl ?_
              refine RW.off_undef rfl rfl rfl rfl ?_
              refine RW.off_undef rfl rfl rfl rfl ?_
              refine RW.off_undef rfl rfl rfl rfl ?_
              refine RW.off_guard rfl rfl rfl rfl hb76 ?_
              refine RW.on_guard rfl rfl rfl rfl hk68 ?_
              refine RW.op1 rfl (runs_pick_false rfl hb76 rfl) ?_
              refine RW.on_guard rfl rfl rfl rfl hk68 ?_
              refine RW.op1 rfl (runs_eqB Tryd.underlying4 rfl rfl) ?_
              refine RW.op1 rfl (runs_pick_true rfl hk68 rfl) ?_
              refine RW.op1 rfl (runs_move rfl) ?_
              have hk88 := (show ((mayB j put star creds && (x || (all && !creds))) == false) = true by rw [hb76]; rfl)
              refine RW.on_guard rfl rfl rfl rfl hk88 ?_
              first
                | refine RW.op1 rfl (runs_loadN (vs := [_, _, _, _]) ag35 ti35 rfl hst (k := 0) rfl rfl rfl) ?_
                | refine RW.op1 rfl (runs_loadN (vs := [_, _, _, _]) ag35 ti35 rfl hst (k := 1) rfl rfl rfl) ?_
                | refine RW.op1 rfl (runs_loadN (vs := [_, _, _, _]) ag35 ti35 rfl hst (k := 2) rfl rfl rfl) ?_
              refine RW.on_guard rfl rfl rfl rfl hk88 ?_
              refine RW.op1 rfl (runs_move rfl) ?_
              refine RW.on_guard rfl rfl rfl rfl hk88 ?_
              refine RW.op1 rfl (runs_move rfl) ?_
              refine RW.on_guard rfl rfl rfl rfl hk88 ?_
              refine RW.op1 rfl (runs_buildF (cells := [_, _]) bz30 rfl rfl rfl rfl rfl) ?_
              refine RW.on_guard rfl rfl rfl rfl hk88 ?_
              refine RW.opE rfl (runs_litF (xs := [.agg #[_, _]]) Tryd.underlying31 ti30 (by decide) rfl rfl rfl rfl rfl hst (by decide)) ?_
              rintro u26 w ⟨Lv26, hstn, hg26⟩
              clear hst
              have hst := hstn
              clear hstn
              obtain ⟨J26, hJ26, hstn, h26⟩ := Grow.freeze hg26 hst
              clear hst
              have hst := hstn
              clear hstn
              replace hM := hM.mono hJ26
              replace hv := hv.mono hJ26
              replace h12 := h12.mono hJ26
              replace hL1 := hL1.mono hJ26
              replace hle := hle.trans hJ26
              try simp only [List.nil_append] at h26
              replace h26 : RdH J26 u26 (([accH] : List HL).map hrowC) := h26
              have hL2 := h26
              refine RW.on_guard rfl rfl rfl rfl hk88 ?_
              refine RW.call rfl call13 rfl rfl (pre_spec hst hM hv (mHl_ok put star x all) 200 ⟨#[]⟩ false hL2 (HB.ofC (by decide) (by decide)) (ByteArray.mk (ohL).toArray) (strOf (mthL.getD j [])) (by rw [strOfZ]; exact hmz) creds) ?_
              rintro e w ⟨I27, hI27, rfl, hstn⟩
              clear hst
              have hst := hstn
              clear hstn
              rw [preE [accH] f3]
              replace hM := hM.mono hI27
              replace hv := hv.mono hI27
              replace h12 := h12.mono hI27
              replace hL1 := hL1.mono hI27
              replace h26 := h26.mono hI27
              replace hL2 := hL2.mono hI27
              replace hle := hle.trans hI27
              refine ⟨_, rfl, ?_⟩
              refine RW.on_guard rfl rfl rfl rfl hk88 ?_
              refine RW.op1 rfl (runs_move rfl) ?_
              refine RW.on_guard rfl rfl rfl rfl hk88 ?_
              refine RW.op1 rfl (runs_eqB Tryd.underlying4 rfl rfl) ?_
              refine RW.op1 rfl (runs_pick_true rfl hk88 rfl) ?_
              refine RW.op1 rfl (runs_move rfl) ?_
              have hk98 := (show (mayB j put star creds == mayB j put star creds) = true by simp)
              refine RW.on_guard rfl rfl rfl rfl hk98 ?_
              first
                | refine RW.op1 rfl (runs_loadN (vs := [_, _, _, _]) ag35 ti35 rfl hst (k := 0) rfl rfl rfl) ?_
                | refine RW.op1 rfl (runs_loadN (vs := [_, _, _, _]) ag35 ti35 rfl hst (k := 1) rfl rfl rfl) ?_
                | refine RW.op1 rfl (runs_loadN (vs := [_, _, _, _]) ag35 ti35 rfl hst (k := 2) rfl rfl rfl) ?_
              refine RW.on_guard rfl rfl rfl rfl hk98 ?_
              refine RW.op1 rfl (runs_move rfl) ?_
              refine RW.on_guard rfl rfl rfl rfl hk98 ?_
              refine RW.op1 rfl (runs_move rfl) ?_
              refine RW.on_guard rfl rfl rfl rfl hk98 ?_
              refine RW.call rfl call13 rfl rfl (pre_spec hst hM hv (mHl_ok put star x all) 200 ⟨#[]⟩ false (show RdH _ (.slice none 0 0) (([] : List HL).map hrowC) from RdL.nil 2) HB.nil (ByteArray.mk (cdL).toArray) (strOf (mthL.getD j [])) (by rw [strOfZ]; exact hmz) creds) ?_
              rintro e w ⟨I28, hI28, rfl, hstn⟩
              clear hst
              have hst := hstn
              clear hstn
              rw [preE [] f4]
              replace hM := hM.mono hI28
              replace hv := hv.mono hI28
              replace h12 := h12.mono hI28
              replace hL1 := hL1.mono hI28
              replace h26 := h26.mono hI28
              replace hL2 := hL2.mono hI28
              replace hle := hle.trans hI28
              refine ⟨_, rfl, ?_⟩
              refine RW.on_guard rfl rfl rfl rfl hk98 ?_
              refine RW.op1 rfl (runs_not rfl) ?_
              refine RW.op1 rfl (runs_pick_true rfl hk98 rfl) ?_
              refine RW.op1 rfl (runs_move rfl) ?_
              have hk105 := (show (!false) = true from rfl)
              refine RW.on_guard rfl rfl rfl rfl hk105 ?_
              refine RW.call rfl call11 rfl rfl (wakes13_spec hst hM) ?_
              rintro e w ⟨rfl, I29, hI29, hstn⟩
              clear hst
              have hst := hstn
              clear hstn
              replace hM := hM.mono hI29
              replace hv := hv.mono hI29
              replace h12 := h12.mono hI29
              replace hL1 := hL1.mono hI29
              replace h26 := h26.mono hI29
              replace hL2 := hL2.mono hI29
              replace hle := hle.trans hI29
              refine ⟨_, rfl, ?_⟩
              refine RW.op1 rfl (runs_pick_true rfl hk105 rfl) ?_
              refine RW.op1 rfl (runs_assign rfl) ?_
              refine RW.done ?_
              refine AQ.next ?_
              refine CW.ret ?_
              refine AQ.ret1 rfl rfl ?_
              exact ⟨rfl, _, hle, hst.drop1.drop1⟩
end Go.Proofs.YtfdgnjbbchkgpaaDoorX
