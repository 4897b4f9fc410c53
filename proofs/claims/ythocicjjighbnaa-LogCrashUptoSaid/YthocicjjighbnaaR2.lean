/- A record written over sectors: what this comes to. -/
import Derived.Test.YthocicjjighbnaaT
import Derived.Test.YthocicjjighbnaaR1
namespace Go.Proofs.YthocicjjighbnaaX
set_option linter.unusedVariables false
set_option linter.unusedSimpArgs false
open Go Go.RowKit Go.Proofs

theorem seal_may (e q : Int) : sealM e q 0 1 [] = mayM e q := by
  unfold sealM
  simp
theorem seal_part {e q : Int} {b : List UInt8} (hm : mayM e q = true) (hn : needN b.length ≤ 255) {k : Nat} (hk : k < needN b.length) : sealM e q (k : Int) (needN b.length : Nat) (partB b k) = true := by
  have := partB_len b k
  unfold sealM
  rw [hm]
  simp
  omega
/-- How writing a record ends. -/
structure FwR (S : DS) (at_ e q : Int) (b : List UInt8) (S' : DS) (next er : Int) : Prop where
  out : if mayM e q = false ∨ 255 < needN b.length then S' = S ∧ next = 0 ∧ er = 1 else
  if at_ < 0 ∨ (S.secs.length : Int) - (needN b.length : Nat) < at_ then S' = S ∧ next = 0 ∧ er = 9 else PutEnds S at_ (secB e q b) (needN b.length) S' next er
theorem rest_next {b : List UInt8} {k m : Nat} (hm : m = 19 ∧ 19 ≤ ((wholeB b).drop (19 * k)).length ∨ m = ((wholeB b).drop (19 * k)).length ∧ m < 19) : (((wholeB b).drop (19 * k)).drop m).take (((wholeB b).drop (19 * k)).length - m) = (wholeB b).drop (19 * (k + 1)) := by
  rw [List.take_of_length_le (by rw [List.length_drop]; exact Nat.le_refl _), List.drop_drop]
  rcases hm with ⟨rfl, h⟩ | ⟨h1, h2⟩
  · rw [Nat.mul_add]
  · rw [List.length_drop] at h1
    rw [List.drop_eq_nil_of_le (by omega), List.drop_eq_nil_of_le (by omega)]
theorem rest_part {b : List UInt8} {k m : Nat} (hm : m = 19 ∧ 19 ≤ ((wholeB b).drop (19 * k)).length ∨ m = ((wholeB b).drop (19 * k)).length ∧ m < 19) : (((wholeB b).drop (19 * k)).drop 0).take (m - 0) = partB b k := by
  unfold partB
  rw [List.drop_zero, Nat.sub_zero]
  rcases hm with ⟨rfl, h⟩ | ⟨h1, h2⟩
  · rfl
  · rw [h1, List.take_of_length_le (Nat.le_refl _), List.take_of_length_le (by omega)]
set_option maxRecDepth 100000 in
set_option maxHeartbeats 1000000 in
theorem fwrite_spec {w0 w : World} {I : Imm} {L Ld : Own} {d : Value} {S : DS} (hd : DiskO d S Ld) (hst : St w0 w I (Ld ++ L)) (at_ e q : Int) (hat : i64ok at_) {vb : Value} {b : List UInt8} (hb0 : RdB I vb b) (hbl : b.length ≤ 100000) (hpn : S.pend.length ≤ 900000) :
    Calls Try.prog 48 #[d, .int .i64 at_, .agg #[.int .i64 e, .int .i64 q], vb] w fun r w' => ∃ I' Ld' S' next er, Imm.le I I' ∧ r = .returned (.tuple #[.int .i64 next, .int .i64 er]) ∧ St w0 w' I' (Ld' ++ L) ∧ DiskO d S' Ld' ∧ FwR S at_ e q b S' next er := by
  unfold i64ok at hat
  have hneed : needN b.length ≤ 5300 := by unfold needN; omega
  have hsl : S.secs.length ≤ 1024 := by obtain ⟨_, _, _, _, _, _, _, _, _, hok⟩ := hd; exact hok.1
  refine enter Try.func48 rfl (N := 77) rfl rfl ?_
  simp only [List.zipIdx_cons, List.zipIdx_nil, List.map_cons, List.map_nil, Nat.zero_add, Nat.reduceAdd]
  have hle := Imm.le.refl I
  refine CW.seq ?_
  -- region 0
  refine CW.region ?_
  refine RW.opE rfl (runs_box rfl hst) ?_
  rintro _ w ⟨b1, rfl, hstn⟩
  clear hst
  have hst := hstn
  clear hstn
  refine RW.op1 rfl (runs_assign rfl) ?_
  refine RW.op1 rfl (runs_assign rfl) ?_
  refine RW.done ?_
  refine AQ.next ?_
  refine CW.seq ?_
  -- region 1
  refine CW.region ?_
  refine RW.op1 rfl (runs_move rfl) ?_
  refine RW.call rfl call47 rfl rfl (need_spec hst hb0 (by omega)) ?_
  rintro e w ⟨rfl, hstn⟩
  clear hst
  have hst := hstn
  clear hstn
  refine ⟨_, rfl, ?_⟩
  refine RW.op1 rfl (runs_assign rfl) ?_
  refine RW.done ?_
  refine AQ.next ?_
  refine CW.seq ?_
  refine CW.seq ?_
  -- region 2
  refine CW.region ?_
  first
    | refine RW.op1 rfl (runs_loadN (vs := [_, _]) ag38 ti38 rfl hst (k := 0) rfl rfl rfl) ?_
    | refine RW.op1 rfl (runs_loadN (vs := [_, _]) ag38 ti38 rfl hst (k := 1) rfl rfl rfl) ?_
    | refine RW.op1 rfl (runs_loadN (vs := [_, _]) ag38 ti38 rfl hst (k := 2) rfl rfl rfl) ?_
  refine RW.call rfl call14 rfl rfl (seal_spec (b := []) hst e q 0 1 (RdL.nil 1) (by decide)) ?_
  rintro e w ⟨I3, v3, hI3, rfl, hstn, _⟩
  clear hst
  have hst := hstn
  clear hstn
  rw [seal_may]
  replace hb0 := hb0.mono hI3
  replace hle := hle.trans hI3
  refine ⟨_, rfl, ?_⟩
  refine RW.op1 rfl (runs_move rfl) ?_
  refine RW.op1 rfl (runs_extract rfl rfl) ?_
  refine RW.op1 rfl (runs_extract rfl rfl) ?_
  refine RW.op1 rfl (runs_assign rfl) ?_
  refine RW.op1 rfl (runs_assign rfl) ?_
  refine RW.done ?_
  refine AQ.next ?_
  refine CW.seq ?_
  -- region 3
  refine CW.region ?_
  refine RW.op1 rfl (runs_move rfl) ?_
  refine RW.op1 rfl (runs_neI rfl rfl) ?_
  refine RW.op1 rfl (runs_move rfl) ?_
  refine RW.split (t := 28) rfl (fun hb28 => ?_) (fun hb28 => ?_)
  · have hb28p := hb28
    try simp only [decide_eq_true_eq, decide_eq_false_iff_not] at hb28p
    have hm : mayM e q = false := by
      cases hm : mayM e q
      · rfl
      · rw [hm] at hb28; exact absurd hb28 (by decide)
    refine RW.off_guard rfl rfl rfl rfl hb28 ?_
    refine RW.off_guard rfl rfl rfl rfl hb28 ?_
    refine RW.op1 rfl (runs_pick_true rfl hb28 rfl) ?_
    refine RW.done ?_
    refine AQ.next ?_
    skip
    refine CW.cond_true rfl ?_
    refine CW.seq ?_
    -- region 4
    refine CW.region ?_
    refine RW.op1 rfl (runs_assign rfl) ?_
    refine RW.op1 rfl (runs_assign rfl) ?_
    refine RW.done ?_
    refine AQ.next ?_
    refine CW.ret ?_
    refine AQ.past_ret ?_
    refine AQ.ret2 rfl rfl rfl ?_
    exact ⟨_, Ld, S, 0, 1, hle, rfl, hst.drop1, hd, by constructor; rw [if_pos (.inl hm)]; exact ⟨rfl, rfl, rfl⟩⟩
  · have hb28p := hb28
    try simp only [decide_eq_true_eq, decide_eq_false_iff_not] at hb28p
    have hm : mayM e q = true := by
      cases hm : mayM e q
      · rw [hm] at hb28; exact absurd hb28 (by decide)
      · rfl
    refine RW.on_guard rfl rfl rfl rfl hb28 ?_
    refine RW.op1 rfl (runs_move rfl) ?_
    refine RW.on_guard rfl rfl rfl rfl hb28 ?_
    refine RW.op1 rfl (runs_gtr rfl rfl) ?_
    refine RW.op1 rfl (runs_pick_false rfl hb28 rfl) ?_
    refine RW.done ?_
    refine AQ.next ?_
    refine CW.cond rfl (fun hc31 => ?_) (fun hc31 => ?_)
    · have hcb31 := hc31
      try simp only [decide_eq_true_eq, decide_eq_false_iff_not] at hc31
      skip
      refine CW.seq ?_
      -- region 4
      refine CW.region ?_
      refine RW.op1 rfl (runs_assign rfl) ?_
      refine RW.op1 rfl (runs_assign rfl) ?_
      refine RW.done ?_
      refine AQ.next ?_
      refine CW.ret ?_
      refine AQ.past_ret ?_
      refine AQ.ret2 rfl rfl rfl ?_
      exact ⟨_, Ld, S, 0, 1, hle, rfl, hst.drop1, hd, by constructor; rw [if_pos (.inr (by omega))]; exact ⟨rfl, rfl, rfl⟩⟩
    · have hcb31 := hc31
      try simp only [decide_eq_true_eq, decide_eq_false_iff_not] at hc31
      have hn255 : needN b.length ≤ 255 := by omega
      refine CW.skip ?_
      refine AQ.next ?_
      refine CW.seq ?_
      refine CW.seq ?_
      -- region 5
      refine CW.region ?_
      refine RW.op1 rfl (runs_move rfl) ?_
      refine RW.op1 rfl (runs_lss rfl rfl) ?_
      refine RW.op1 rfl (runs_move rfl) ?_
      refine RW.split (t := 34) rfl (fun hb34 => ?_) (fun hb34 => ?_)
      · have hb34p := hb34
        try simp only [decide_eq_true_eq, decide_eq_false_iff_not] at hb34p
        refine RW.off_guard rfl rfl rfl rfl hb34 ?_
        refine RW.off_guard rfl rfl rfl rfl hb34 ?_
        refine RW.off_guard rfl rfl rfl rfl hb34 ?_
        refine RW.off_guard rfl rfl rfl rfl hb34 ?_
        refine RW.off_guard rfl rfl rfl rfl hb34 ?_
        refine RW.off_guard rfl rfl rfl rfl hb34 ?_
        refine RW.op1 rfl (runs_pick_true rfl hb34 rfl) ?_
        refine RW.done ?_
        refine AQ.next ?_
        skip
        refine CW.cond_true rfl ?_
        refine CW.seq ?_
        -- region 6
        refine CW.region ?_
        refine RW.op1 rfl (runs_assign rfl) ?_
        refine RW.op1 rfl (runs_assign rfl) ?_
        refine RW.done ?_
        refine AQ.next ?_
        refine CW.ret ?_
        refine AQ.past_ret ?_
        refine AQ.ret2 rfl rfl rfl ?_
        exact ⟨_, Ld, S, 0, 9, hle, rfl, hst.drop1, hd, by constructor; rw [if_neg (by rw [hm]; simp; omega), if_pos (.inl (by omega))]; exact ⟨rfl, rfl, rfl⟩⟩
      · have hb34p := hb34
        try simp only [decide_eq_true_eq, decide_eq_false_iff_not] at hb34p
        refine RW.on_guard rfl rfl rfl rfl hb34 ?_
        refine RW.op1 rfl (runs_move rfl) ?_
        refine RW.on_guard rfl rfl rfl rfl hb34 ?_
        refine RW.op1 rfl (runs_move rfl) ?_
        refine RW.on_guard rfl rfl rfl rfl hb34 ?_
        refine RW.call rfl call30 rfl rfl (len_spec hd (hst.perm List.perm_middle.symm)) ?_
        rintro e w ⟨rfl, hstn⟩
        clear hst
        have hst := hstn
        clear hstn
        replace hst := hst.perm List.perm_middle
        refine ⟨_, rfl, ?_⟩
        refine RW.on_guard rfl rfl rfl rfl hb34 ?_
        refine RW.op1 rfl (runs_move rfl) ?_
        refine RW.on_guard rfl rfl rfl rfl hb34 ?_
        refine RW.op1 rfl (runs_sub rfl rfl (by omega)) ?_
        refine RW.on_guard rfl rfl rfl rfl hb34 ?_
        refine RW.op1 rfl (runs_gtr rfl rfl) ?_
        refine RW.op1 rfl (runs_pick_false rfl hb34 rfl) ?_
        refine RW.done ?_
        refine AQ.next ?_
        refine CW.cond rfl (fun hc41 => ?_) (fun hc41 => ?_)
        · have hcb41 := hc41
          try simp only [decide_eq_true_eq, decide_eq_false_iff_not] at hc41
          skip
          refine CW.seq ?_
          -- region 6
          refine CW.region ?_
          refine RW.op1 rfl (runs_assign rfl) ?_
          refine RW.op1 rfl (runs_assign rfl) ?_
          refine RW.done ?_
          refine AQ.next ?_
          refine CW.ret ?_
          refine AQ.past_ret ?_
          refine AQ.ret2 rfl rfl rfl ?_
          exact ⟨_, Ld, S, 0, 9, hle, rfl, hst.drop1, hd, by constructor; rw [if_neg (by rw [hm]; simp; omega), if_pos (.inr (by omega))]; exact ⟨rfl, rfl, rfl⟩⟩
        · have hcb41 := hc41
          try simp only [decide_eq_true_eq, decide_eq_false_iff_not] at hc41
          have hat0 : 0 ≤ at_ ∧ at_ ≤ (S.secs.length : Int) - (needN b.length : Nat) := by omega
          have hfw : ∀ S' next er, PutEnds S at_ (secB e q b) (needN b.length) S' next er → FwR S at_ e q b S' next er := by
            intro S' next er h
            constructor
            rw [if_neg (by rw [hm]; simp; omega), if_neg (by omega)]
            exact h
          refine CW.skip ?_
          refine AQ.next ?_
          refine CW.seq ?_
          -- region 7
          refine CW.region ?_
          refine RW.op1 rfl (runs_move rfl) ?_
          refine RW.call rfl call52 rfl rfl (whole_spec hst hb0 (by omega)) ?_
          rintro e w ⟨I5, vr0, hI5, rfl, hstn, hr0⟩
          clear hst
          have hst := hstn
          clear hstn
          replace hb0 := hb0.mono hI5
          replace hle := hle.trans hI5
          refine ⟨_, rfl, ?_⟩
          refine RW.op1 rfl (runs_assign rfl) ?_
          refine RW.done ?_
          refine AQ.next ?_
          refine CW.seq ?_
          refine CW.seq ?_
          -- region 8
          refine CW.region ?_
          refine RW.op1 rfl (runs_move rfl) ?_
          refine RW.op1 rfl (runs_move rfl) ?_
          refine RW.done ?_
          refine AQ.next ?_
          refine CW.block ?_
          -- loop 1
          refine CW.loop (Nat × Imm × Own × Value) (fun x w => I.le x.2.1 ∧ St w0 w x.2.1 ((b1, .cells #[.int .i64 e, .int .i64 q] 38) :: (x.2.2.1 ++ L)) ∧ DiskO d (putTo S at_ (secB e q b) x.1) x.2.2.1 ∧ RdB x.2.1 x.2.2.2 ((wholeB b).drop (19 * x.1)) ∧ (∀ j, j < x.1 → putE S at_ (secB e q b) j = 0) ∧ x.1 ≤ needN b.length) (fun x => [(0, d), (1, .int .i64 at_), (6, .pointer (some ⟨b1, 0, none⟩)), (10, .int .i64 (needN b.length : Nat)), (13, x.2.2.2), (44, .int .i64 (needN b.length : Nat)), (45, .int .i64 (x.1 : Int))]) (fun x => needN b.length - x.1) ⟨(0, _, _, _), ⟨hle, hst, hd, hr0, fun j h => absurd h (Nat.not_lt_zero _), Nat.zero_le _⟩, ⟨rfl, rfl, rfl, rfl, rfl, rfl, rfl, trivial⟩⟩ ?_
          clear hr0 hle hd hst
          rintro ⟨k, I5, Ld5, vr⟩ w ⟨hle, hst, hd, hr, hz, hk⟩
          dsimp only at hle hst hd hr hz hk ⊢
          refine CW.seq ?_
          -- region 9
          refine CW.region ?_
          refine RW.op1 rfl (runs_lss rfl rfl) ?_
          refine RW.done ?_
          refine AQ.next ?_
          refine CW.seq ?_
          refine CW.cond rfl (fun hc46 => ?_) (fun hc46 => ?_)
          · have hcb46 := hc46
            try simp only [decide_eq_true_eq, decide_eq_false_iff_not] at hc46
            have hk1 : k < needN b.length := by omega
            have hsm := seal_part hm hn255 hk1
            have hpl := partB_len b k
            have hpp := putTo_pend S at_ (secB e q b) k
            refine CW.skip ?_
            refine AQ.next ?_
            refine CW.seq ?_
            refine CW.block ?_
            refine CW.seq ?_
            -- region 10
            refine CW.region ?_
            refine RW.op1 rfl (runs_move rfl) ?_
            refine RW.op1 rfl (runs_assign rfl) ?_
            refine RW.done ?_
            refine AQ.next ?_
            refine CW.seq ?_
            -- region 11
            refine CW.region ?_
            refine RW.op1 rfl (runs_move rfl) ?_
            refine RW.op1 rfl (RdL.len Try.underlying33 rfl hr) ?_
            refine RW.op1 rfl (runs_min rfl rfl) ?_
            obtain ⟨mn, hmn, hmn1⟩ : ∃ m : Nat, (if ((((wholeB b).drop (19 * k)).length : Nat) : Int) < 19 then ((((wholeB b).drop (19 * k)).length : Nat) : Int) else 19) = (m : Int) ∧ (m = 19 ∧ 19 ≤ ((wholeB b).drop (19 * k)).length ∨ m = ((wholeB b).drop (19 * k)).length ∧ m < 19) := by
              by_cases h : ((wholeB b).drop (19 * k)).length < 19
              · exact ⟨_, by rw [if_pos (by omega)], .inr ⟨rfl, h⟩⟩
              · exact ⟨19, by rw [if_neg (by omega)]; rfl, .inl ⟨rfl, by omega⟩⟩
            rw [hmn]
            refine RW.op1 rfl (runs_assign rfl) ?_
            refine RW.done ?_
            refine AQ.next ?_
            refine CW.seq ?_
            -- region 12
            refine CW.drawSt hst (.q 0 (.q 1 (.q 2 (.q 3 (.q 4 (.q 5 (.l 6 (.q 7 (.q 8 (.q 9 (.q 10 (.q 11 .nil)))))))))))) follows (by kernel_rfl) (fun w hst => ?_)
            refine DRW.q rfl rfl (FSt.loadN (vs := [.int .i64 e, .int .i64 q]) ag38 ti38 rfl (k := 0) rfl rfl rfl) ?_
            refine DRW.q rfl rfl (fun w' hF => runs_move rfl) ?_
            refine DRW.q rfl rfl (fun w' hF => runs_move rfl) ?_
            refine DRW.q rfl rfl (fun w' hF => runs_move rfl) ?_
            refine DRW.q rfl rfl (fun w' hF => runs_move rfl) ?_
            have hrp := RdB.part hr (lo := 0) (hi := mn) (Nat.zero_le _) (by omega)
            rw [rest_part hmn1] at hrp
            refine DRW.q rfl rfl (fun w' hF => RdL.slice_h Try.underlying33 ti5 rfl rfl hr (by omega)) ?_
            refine DRW.call rfl rfl call14 rfl rfl (seal_spec hst e q (k : Int) (needN b.length : Nat) hrp (by omega)) ?_
            rintro e w ⟨I6, vS, hI6, rfl, hstn, hS⟩
            clear hst
            have hst := hstn
            clear hstn
            rw [hsm] at hS ⊢
            replace hS : RdB I6 vS (secB e q b k) := hS
            replace hr := hr.mono hI6
            replace hle := hle.trans hI6
            refine ⟨_, rfl, FSt.of hst hI6 (by first | exact (List.sublist_cons_self _ _).trans (List.sublist_append_right _ _) | exact List.Sublist.refl _ | exact List.sublist_cons_self _ _ | exact List.sublist_append_right _ _ | exact (List.sublist_cons_self _ _).trans (List.sublist_cons_self _ _) | exact (List.sublist_append_right _ _).trans (List.sublist_cons_self _ _) | simp), ?_⟩
            refine DRW.q rfl rfl (fun w' hF => runs_move rfl) ?_
            refine DRW.q rfl rfl (fun w' hF => runs_extract rfl rfl) ?_
            refine DRW.q rfl rfl (fun w' hF => runs_extract rfl rfl) ?_
            refine DRW.q rfl rfl (fun w' hF => runs_assign rfl) ?_
            refine DRW.q rfl rfl (fun w' hF => runs_assign rfl) ?_
            refine DRW.done ?_
            refine AQ.next ?_
            refine CW.seq ?_
            refine CW.seq ?_
            -- region 13
            refine CW.region ?_
            refine RW.op1 rfl (runs_move rfl) ?_
            refine RW.op1 rfl (runs_move rfl) ?_
            refine RW.op1 rfl (runs_move rfl) ?_
            refine RW.op1 rfl (runs_add rfl rfl (by omega)) ?_
            refine RW.op1 rfl (runs_move rfl) ?_
            refine RW.call rfl call12 rfl rfl (write_spec hd (hst.perm List.perm_middle.symm) (at_ + (k : Int)) hS (by omega)) ?_
            rintro e w ⟨I7, Ld6, hI7, rfl, hstn, hd6⟩
            clear hst
            have hst := hstn
            clear hstn
            replace hst := hst.perm List.perm_middle
            obtain ⟨er, her⟩ : ∃ er, putE S at_ (secB e q b) k = er := ⟨_, rfl⟩
            rw [show (writeR (putTo S at_ (secB e q b) k) (at_ + (k : Int)) (secB e q b k)).2 = er from her]
            replace hr := hr.mono hI7
            replace hS := hS.mono hI7
            replace hle := hle.trans hI7
            refine ⟨_, rfl, ?_⟩
            refine RW.op1 rfl (runs_assign rfl) ?_
            refine RW.done ?_
            refine AQ.next ?_
            refine CW.seq ?_
            -- region 14
            refine CW.region ?_
            refine RW.op1 rfl (runs_move rfl) ?_
            refine RW.op1 rfl (runs_neI rfl rfl) ?_
            refine RW.done ?_
            refine AQ.next ?_
            refine CW.cond rfl (fun hc68 => ?_) (fun hc68 => ?_)
            · have hcb68 := hc68
              try simp only [decide_eq_true_eq, decide_eq_false_iff_not] at hc68
              refine CW.seq ?_
              -- region 15
              refine CW.region ?_
              refine RW.op1 rfl (runs_move rfl) ?_
              refine RW.op1 rfl (runs_assign rfl) ?_
              refine RW.op1 rfl (runs_assign rfl) ?_
              refine RW.done ?_
              refine AQ.next ?_
              refine CW.ret ?_
              refine AQ.past_ret ?_
              refine AQ.block_ret ?_
              refine AQ.past_ret ?_
              refine AQ.past_ret ?_
              refine AQ.block_ret ?_
              refine AQ.past_ret ?_
              refine AQ.ret2 rfl rfl rfl ?_
              exact ⟨_, Ld6, _, 0, er, hle, rfl, hst.drop1, hd6, hfw _ _ _ (.inr ⟨k, hk1, hz, by rw [her]; omega, rfl, rfl, her.symm⟩)⟩
            · have hcb68 := hc68
              try simp only [decide_eq_true_eq, decide_eq_false_iff_not] at hc68
              refine CW.skip ?_
              refine AQ.next ?_
              -- region 16
              refine CW.region ?_
              refine RW.op1 rfl (runs_move rfl) ?_
              refine RW.op1 rfl (runs_move rfl) ?_
              have hrn := RdB.part hr (lo := ((mn : Nat) : Int).toNat) (hi := ((wholeB b).drop (19 * k)).length) (by omega) (Nat.le_refl _)
              rw [Int.toNat_natCast, rest_next hmn1] at hrn
              refine RW.op1 rfl (RdL.slice_l Try.underlying33 ti5 rfl rfl hr (by omega)) ?_
              refine RW.op1 rfl (runs_assign rfl) ?_
              refine RW.done ?_
              refine AQ.block_normal ?_
              refine AQ.next ?_
              -- region 17
              refine CW.region ?_
              refine RW.op1 rfl (runs_add rfl rfl (by omega)) ?_
              refine RW.op1 rfl (runs_move rfl) ?_
              refine RW.done ?_
              exact AQ.again (x := (k, I5, Ld5, vr)) (k + 1, _, Ld6, _) ⟨hle, hst, hd6, hrn, fun j h => by
                by_cases hj : j < k
                · exact hz j hj
                · have : j = k := by omega
                  subst this
                  rw [her]; omega, by omega⟩ ⟨rfl, rfl, rfl, rfl, rfl, rfl, rfl, trivial⟩ (by dsimp only; omega)
          · have hcb46 := hc46
            try simp only [decide_eq_true_eq, decide_eq_false_iff_not] at hc46
            skip
            refine CW.exit ?_
            refine AQ.past_exit ?_
            refine AQ.past_exit ?_
            refine AQ.block_hit ?_
            refine AQ.next ?_
            refine CW.seq ?_
            -- region 18
            refine CW.region ?_
            refine RW.op1 rfl (runs_move rfl) ?_
            refine RW.op1 rfl (runs_move rfl) ?_
            refine RW.op1 rfl (runs_add rfl rfl (by omega)) ?_
            refine RW.op1 rfl (runs_assign rfl) ?_
            refine RW.op1 rfl (runs_assign rfl) ?_
            refine RW.done ?_
            refine AQ.next ?_
            refine CW.ret ?_
            refine AQ.ret2 rfl rfl rfl ?_
            have hkn : k = needN b.length := by omega
            subst hkn
            exact ⟨_, Ld5, _, _, 0, hle, rfl, hst.drop1, hd, hfw _ _ _ (.inl ⟨hz, rfl, rfl, rfl⟩)⟩
end Go.Proofs.YthocicjjighbnaaX
