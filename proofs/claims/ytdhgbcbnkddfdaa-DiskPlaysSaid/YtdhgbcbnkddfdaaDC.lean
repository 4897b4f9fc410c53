/- Whatever is written, flushed, torn: the walk. -/
import Derived.Test.YtdhgbcbnkddfdaaT
import Derived.Test.YtdhgbcbnkddfdaaDB
namespace Go.Proofs.YtdhgbcbnkddfdaaX
set_option linter.unusedVariables false
set_option linter.unusedSimpArgs false
open Go Go.RowKit Go.Proofs

theorem plays_fin {w0 w : World} {I : Imm} {L : Own} {d vl vk vz : Value} {n m bS : Nat} {ls ks : List Int} (y : PS) (h1 : PWd w0 w L bS y) (h2 : PGood d n vl ls vk ks vz y) (h3 : I.le y.J) (h4 : y.S.pend.length ≤ m) : PWd w0 w L bS y ∧ PGood d n vl ls vk ks vz y ∧ I.le y.J ∧ y.S.pend.length ≤ m := ⟨h1, h2, h3, h4⟩
theorem iat_ok2 {xs : List Int} {i : Int} (h : ∀ n ∈ xs, i64ok n) (h0 : 0 ≤ i) (h1 : i < xs.length) : i64ok (iat xs i) := by
  unfold iat
  have : i.toNat < xs.length := by omega
  rw [List.getD_eq_getElem?_getD, List.getElem?_eq_getElem this]
  exact h _ (List.getElem_mem _)
theorem iat_getD (xs : List Int) (j : Nat) : iat xs (j : Int) = xs.getD j 0 := by unfold iat; rw [Int.toNat_natCast]
theorem inb_1 {a n : Int} (h : 0 ≤ a) : decide (a < n) = decide (0 ≤ a ∧ a < n) := by
  by_cases h2 : a < n
  · rw [decide_eq_true h2, decide_eq_true ⟨h, h2⟩]
  · rw [decide_eq_false h2, decide_eq_false (fun h3 => h2 h3.2)]
theorem inb_2 {a n : Int} (h : ¬ 0 ≤ a) : false = decide (0 ≤ a ∧ a < n) := by rw [decide_eq_false (fun h3 => h h3.1)]
set_option maxRecDepth 100000 in
set_option maxHeartbeats 4000000 in
theorem dplays_spec {w0 w : World} {I : Imm} {L : Own} (hst : St w0 w I L) (sectors : Int) (hsec : i64ok sectors) {vl : Value} {ls : List Int} (hl0 : RdI I vl ls) (hls : ∀ v ∈ ls, i64ok v) (hll : ls.length ≤ 9223372036854775807) {vk : Value} {ks : List Int} (hk0 : RdI I vk ks) (hkl : ks.length ≤ 9223372036854775807) :
    Calls Try.prog 7 #[.int .i64 sectors, vl, vk] w fun e w' => e = .returned (.bool true) ∧ ∃ I', I.le I' ∧ St w0 w' I' L := by
  refine enter Try.func7 rfl (N := 351) rfl rfl ?_
  simp only [List.zipIdx_cons, List.zipIdx_nil, List.map_cons, List.map_nil, Nat.zero_add, Nat.reduceAdd]
  have hle := Imm.le.refl I
  refine CW.seq ?_
  -- region 0
  refine CW.region ?_
  refine RW.op1 rfl (runs_assign rfl) ?_
  refine RW.done ?_
  refine AQ.next ?_
  refine CW.seq ?_
  refine CW.seq ?_
  -- region 1
  refine CW.region ?_
  refine RW.op1 rfl (runs_move rfl) ?_
  refine RW.op1 rfl (runs_rem rfl rfl (by decide)) ?_
  refine RW.op1 rfl (runs_neI rfl rfl) ?_
  refine RW.done ?_
  refine AQ.next ?_
  refine CW.cut Int (fun y w => St w0 w I L ∧ i64ok y) (fun y => [(0, .int .i64 y), (1, vl), (2, vk)]) ?_ ?_
  · refine CW.cond rfl (fun hc40 => ?_) (fun hc40 => ?_)
    · have hcb40 := hc40
      try simp only [decide_eq_true_eq, decide_eq_false_iff_not] at hc40
      -- region 2
      refine CW.region ?_
      refine RW.op1 rfl (runs_move rfl) ?_
      refine RW.call rfl call8 rfl rfl (within_spec hst (v := sectors) (n := 6) hsec (by unfold i64ok; decide)) ?_
      rintro e w ⟨rfl, hstn⟩
      clear hst
      have hst := hstn
      clear hstn
      have hm42 : i64ok (within sectors 6) := by have := within_range sectors 6; unfold i64ok; omega
      refine ⟨_, rfl, ?_⟩
      refine RW.op1 rfl (runs_assign rfl) ?_
      refine RW.done ?_
      exact AQ.meet _ ⟨hst, by assumption⟩ ⟨rfl, rfl, rfl, trivial⟩
    · have hcb40 := hc40
      try simp only [decide_eq_true_eq, decide_eq_false_iff_not] at hc40
      refine CW.skip ?_
      exact AQ.meet _ ⟨hst, by assumption⟩ ⟨rfl, rfl, rfl, trivial⟩
  · rintro m w ⟨hstn, hm⟩
    clear hst
    have hst := hstn
    clear hstn
    refine AQ.next ?_
    refine CW.seq ?_
    -- region 3
    refine CW.region ?_
    refine RW.op1 rfl (runs_move rfl) ?_
    refine RW.call rfl call9 rfl rfl (new_spec hst m) ?_
    rintro e w ⟨d, Ld, rfl, hd1, hstn, hd, ⟨ad, rfl⟩⟩
    clear hst
    have hst := hstn
    clear hstn
    refine ⟨_, rfl, ?_⟩
    refine RW.op1 rfl (runs_assign rfl) ?_
    refine RW.done ?_
    refine AQ.next ?_
    refine CW.seq ?_
    refine CW.seq ?_
    -- region 4
    refine CW.region ?_
    refine RW.op1 rfl (runs_move rfl) ?_
    refine RW.op1 rfl (runs_eq_nilptr Try.underlying23 rfl) ?_
    refine RW.done ?_
    refine AQ.next ?_
    refine CW.cond rfl (fun hc => absurd hc (by simp)) (fun hc => ?_)
    refine CW.skip ?_
    refine AQ.next ?_
    refine CW.seq ?_
    -- region 6
    refine CW.region ?_
    refine RW.op1 rfl (runs_move rfl) ?_
    refine RW.op1 rfl (runs_max rfl rfl) ?_
    refine RW.op1 rfl (runs_min rfl rfl) ?_
    have e49 : (if (1024 : Int) < (if (0 : Int) > m then 0 else m) then 1024 else (if (0 : Int) > m then 0 else m)) = ((newR m).secs.length : Nat) := by
      rw [newR_len]
      (repeat' split) <;> omega
    rw [e49]
    have hn1024 : (newR m).secs.length ≤ 1024 := by rw [newR_len]; (repeat' split) <;> omega
    obtain ⟨n, hn⟩ : ∃ n, (newR m).secs.length = n := ⟨_, rfl⟩
    refine RW.op1 rfl (runs_assign rfl) ?_
    refine RW.done ?_
    refine AQ.next ?_
    refine CW.seq ?_
    -- region 7
    refine CW.region ?_
    refine RW.opE rfl (runs_makeMap hst) ?_
    rintro _ w ⟨bS, rfl, hstn⟩
    clear hst
    have hst := hstn
    clear hstn
    refine RW.opE rfl (runs_makeMap hst) ?_
    rintro _ w ⟨bN, rfl, hstn⟩
    clear hst
    have hst := hstn
    clear hstn
    refine RW.op1 rfl (runs_assign rfl) ?_
    refine RW.op1 rfl (runs_assign rfl) ?_
    refine RW.done ?_
    refine AQ.next ?_
    refine CW.seq ?_
    -- region 8
    refine CW.region ?_
    refine RW.opE rfl (runs_makeSlice (n := 32) Try.underlying26 ti5 rfl hst (by omega) (by unfold maxLen; omega)) ?_
    rintro _ w ⟨b52, rfl, hstn⟩
    clear hst
    have hst := hstn
    clear hstn
    rw [made_b8] at hst
    obtain ⟨I52, hI52, hstn, hz⟩ := RdB.of_block (n := 32) (by simp) hst (by unfold maxLen; omega)
    clear hst
    have hst := hstn
    clear hstn
    replace hle := hle.trans hI52
    have hG0 := PGood.init (bN := bN) hd (RdL.mono hI52 hl0) (RdL.mono hI52 hk0) (show RdB I52 _ z32 from hz)
    rw [hn] at hG0 ⊢
    obtain ⟨vz, hvz⟩ : ∃ v, v = Value.slice (some ⟨b52, 0, none⟩) 32 32 := ⟨_, rfl⟩
    rw [← hvz] at hG0 ⊢
    refine RW.op1 rfl (runs_assign rfl) ?_
    refine RW.done ?_
    refine AQ.next ?_
    refine CW.seq ?_
    -- region 9
    refine CW.region ?_
    refine RW.op1 rfl (runs_assign rfl) ?_
    refine RW.done ?_
    refine AQ.next ?_
    refine CW.seq ?_
    -- region 10
    refine CW.region ?_
    refine RW.op1 rfl (runs_assign rfl) ?_
    refine RW.done ?_
    refine AQ.next ?_
    refine CW.seq ?_
    -- region 11
    refine CW.region ?_
    refine RW.op1 rfl (runs_assign rfl) ?_
    refine RW.op1 rfl (runs_assign rfl) ?_
    refine RW.done ?_
    refine AQ.next ?_
    refine CW.seq ?_
    refine CW.seq ?_
    -- region 12
    refine CW.region ?_
    refine RW.op1 rfl (runs_assign rfl) ?_
    refine RW.done ?_
    refine AQ.next ?_
    refine CW.block ?_
    -- loop 1
    refine CW.loop (PS × Nat) (fun x w => PWd w0 w L bS x.1 ∧ PGood (.pointer (some ad)) n vl ls vk ks vz x.1 ∧ I.le x.1.J ∧ x.1.S.pend.length ≤ x.2 ∧ x.2 ≤ 30) (fun x => [(1, vl), (2, vk), (7, (.pointer (some ad))), (8, .int .i64 (n : Nat)), (9, .map (some bS)), (11, vz), (10, .map (some x.1.bN)), (12, x.1.va), (13, x.1.vx), (14, .int .i64 x.1.S.left), (15, .bool x.1.S.down), (16, .int .i64 (3 * (x.2 : Nat)))]) (fun x => 31 - x.2) ⟨(⟨newR m, I52, Ld, bN, .map #[] 0, .map #[] 0, [], [], .slice none 0 0, .slice none 0 0, [], [], []⟩, 0), ⟨hst.perm (List.Perm.swap _ _ _), hG0, hle, Nat.zero_le _, by omega⟩, ⟨rfl, rfl, rfl, rfl, rfl, rfl, rfl, rfl, rfl, rfl, rfl, rfl, trivial⟩⟩ ?_
    clear hG0 hle hst hd hn hn1024
    rintro ⟨x, k⟩ w ⟨hst, G, hle, hp, hk⟩
    dsimp only at hst G hle hp hk ⊢
    unfold PWd at hst
    refine CW.seq ?_
    refine CW.seq ?_
    -- region 13
    refine CW.region ?_
    refine RW.op1 rfl (runs_move rfl) ?_
    refine RW.op1 rfl (runs_add rfl rfl (by omega)) ?_
    refine RW.op1 rfl (runs_move rfl) ?_
    refine RW.op1 rfl (RdL.len Try.underlying42 rfl G.hl) ?_
    refine RW.op1 rfl (runs_lss rfl rfl) ?_
    refine RW.op1 rfl (runs_move rfl) ?_
    refine RW.split (t := 58) rfl (fun hb58 => ?_) (fun hb58 => ?_)
    · have hb58p := hb58
      try simp only [decide_eq_true_eq, decide_eq_false_iff_not] at hb58p
      skip
      refine RW.on_guard rfl rfl rfl rfl hb58 ?_
      refine RW.op1 rfl (runs_move rfl) ?_
      refine RW.on_guard rfl rfl rfl rfl hb58 ?_
      refine RW.op1 rfl (runs_lss rfl rfl) ?_
      refine RW.op1 rfl (runs_pick_true rfl hb58 rfl) ?_
      refine RW.done ?_
      refine AQ.next ?_
      refine CW.cond rfl (fun hc61 => ?_) (fun hc61 => ?_)
      · have hcb61 := hc61
        try simp only [decide_eq_true_eq, decide_eq_false_iff_not] at hc61
        refine CW.skip ?_
        refine AQ.next ?_
        refine CW.seq ?_
        refine CW.block ?_
        refine CW.seq ?_
        -- region 15
        refine CW.drawSt hst (.q 0 (.q 1 (.q 2 (.q 3 (.q 4 (.q 7 (.q 8 (.q 9 (.q 10 (.q 11 (.l 5 (.q 6 (.l 12 (.q 13 (.q 14 .nil))))))))))))))) follows (by kernel_rfl) (fun w hst => ?_)
        refine DRW.q rfl rfl (fun w' hF => runs_move rfl) ?_
        refine DRW.q rfl rfl (fun w' hF => runs_move rfl) ?_
        refine DRW.q rfl rfl (fun w' hF => runs_add rfl rfl (by omega)) ?_
        refine DRW.q rfl rfl (fun w' hF => RdL.indexAddr Try.underlying42 ti3 (by decide) rfl rfl G.hl (by omega)) ?_
        refine DRW.q rfl rfl (FSt.load1 sc3 rfl (RdI.at G.hl (by omega) (by omega))) ?_
        refine DRW.q rfl rfl (fun w' hF => runs_move rfl) ?_
        refine DRW.q rfl rfl (fun w' hF => runs_move rfl) ?_
        refine DRW.q rfl rfl (fun w' hF => runs_add rfl rfl (by omega)) ?_
        refine DRW.q rfl rfl (fun w' hF => RdL.indexAddr Try.underlying42 ti3 (by decide) rfl rfl G.hl (by omega)) ?_
        refine DRW.q rfl rfl (FSt.load1 sc3 rfl (RdI.at G.hl (by omega) (by omega))) ?_
        refine DRW.call rfl rfl call8 rfl rfl (within_spec hst (v := iat ls (3 * (k : Int) + 1)) (n := 8) (iat_ok2 hls (by omega) (by omega)) (by unfold i64ok; omega)) ?_
        rintro e w ⟨rfl, hstn⟩
        clear hst
        have hst := hstn
        clear hstn
        have hw69 := within_range (iat ls (3 * (k : Int) + 1)) (8)
        generalize hx69 : within (iat ls (3 * (k : Int) + 1)) (8) = x69 at *
        refine ⟨_, rfl, FSt.of hst (Imm.le.refl _) (by first | exact (List.sublist_cons_self _ _).trans (List.sublist_append_right _ _) | exact List.Sublist.refl _ | exact List.sublist_cons_self _ _ | exact List.sublist_append_right _ _ | exact (List.sublist_cons_self _ _).trans (List.sublist_cons_self _ _) | exact (List.sublist_append_right _ _).trans (List.sublist_cons_self _ _) | simp), ?_⟩
        refine DRW.q rfl rfl (fun w' hF => runs_sub rfl rfl (by omega)) ?_
        refine DRW.call rfl rfl call16 rfl rfl (bytes_spec hst (iat ls (3 * (k : Int) + 2)) 32 (iat_ok2 hls (by omega) (by omega)) (by decide)) ?_
        rintro e w ⟨I76, vB, hI76, rfl, hstn, hB⟩
        clear hst
        have hst := hstn
        clear hstn
        replace G := G.mono hI76
        replace hle := hle.trans hI76
        refine ⟨_, rfl, FSt.of hst hI76 (by first | exact (List.sublist_cons_self _ _).trans (List.sublist_append_right _ _) | exact List.Sublist.refl _ | exact List.sublist_cons_self _ _ | exact List.sublist_append_right _ _ | exact (List.sublist_cons_self _ _).trans (List.sublist_cons_self _ _) | exact (List.sublist_append_right _ _).trans (List.sublist_cons_self _ _) | simp), ?_⟩
        refine DRW.q rfl rfl (fun w' hF => runs_assign rfl) ?_
        refine DRW.q rfl rfl (fun w' hF => runs_assign rfl) ?_
        obtain ⟨at_, hat, hat1⟩ : ∃ at_, x69 - 1 = at_ ∧ (-1 ≤ at_ ∧ at_ ≤ 6) := ⟨_, rfl, by omega⟩
        rw [hat]
        refine DRW.done ?_
        refine AQ.next ?_
        refine CW.seq ?_
        refine CW.seq ?_
        -- region 16
        refine CW.region ?_
        refine RW.op1 rfl (runs_move rfl) ?_
        refine RW.op1 rfl (runs_move rfl) ?_
        refine RW.op1 rfl (runs_add rfl rfl (by omega)) ?_
        refine RW.op1 rfl (RdL.indexAddr Try.underlying42 ti3 (by decide) rfl rfl G.hl (by omega)) ?_
        refine RW.op1 rfl (runs_load1 sc3 rfl (hst.cell_imm (RdI.at G.hl (by omega) (by omega)))) ?_
        refine RW.op1 rfl (runs_rem rfl rfl (by decide)) ?_
        refine RW.op1 rfl (runs_eqI rfl rfl) ?_
        refine RW.done ?_
        refine AQ.next ?_
        refine CW.cut (Value × List UInt8) (fun y w => St w0 w I76 ((bS, x.oS) :: (x.bN, x.oN) :: (x.Ld ++ (x.La ++ (x.Lx ++ L)))) ∧ RdB I76 y.1 y.2) (fun y => [(1, vl), (2, vk), (7, (.pointer (some ad))), (8, .int .i64 (n : Nat)), (9, .map (some bS)), (11, vz), (10, .map (some x.bN)), (12, x.va), (13, x.vx), (14, .int .i64 x.S.left), (15, .bool x.S.down), (16, .int .i64 (3 * (k : Nat))), (17, .int .i64 at_), (18, y.1)]) ?_ ?_
        · refine CW.cond rfl (fun hc83 => ?_) (fun hc83 => ?_)
          · have hcb83 := hc83
            try simp only [decide_eq_true_eq, decide_eq_false_iff_not] at hc83
            -- region 17
            refine CW.region ?_
            refine RW.op1 rfl (runs_move rfl) ?_
            have hbl : (bytesOf (iat ls (3 * (k : Int) + 2)) 32).length = 32 := by rw [bytesOf_length]; rfl
            have hp85 : RdB _ (partV vB 0 (7 : Int).toNat 1) ((bytesOf (iat ls (3 * (k : Int) + 2)) 32).take 7) := RdB.part hB (by omega) (by omega)
            refine RW.op1 rfl (RdL.slice_h Try.underlying26 ti5 rfl rfl hB (by omega)) ?_
            refine RW.op1 rfl (runs_assign rfl) ?_
            refine RW.done ?_
            first
              | exact AQ.meet (_, _) ⟨hst, hp85⟩ ⟨rfl, rfl, rfl, rfl, rfl, rfl, rfl, rfl, rfl, rfl, rfl, rfl, rfl, rfl, trivial⟩
              | exact AQ.meet (_, _) ⟨hst, hB⟩ ⟨rfl, rfl, rfl, rfl, rfl, rfl, rfl, rfl, rfl, rfl, rfl, rfl, rfl, rfl, trivial⟩
          · have hcb83 := hc83
            try simp only [decide_eq_true_eq, decide_eq_false_iff_not] at hc83
            refine CW.skip ?_
            first
              | exact AQ.meet (_, _) ⟨hst, hp85⟩ ⟨rfl, rfl, rfl, rfl, rfl, rfl, rfl, rfl, rfl, rfl, rfl, rfl, rfl, rfl, trivial⟩
              | exact AQ.meet (_, _) ⟨hst, hB⟩ ⟨rfl, rfl, rfl, rfl, rfl, rfl, rfl, rfl, rfl, rfl, rfl, rfl, rfl, rfl, trivial⟩
        · rintro ⟨vb, b⟩ w ⟨hstn, hb⟩
          dsimp only at hstn hb ⊢
          clear hst
          have hst := hstn
          clear hstn
          refine AQ.next ?_
          refine CW.seq ?_
          -- region 18
          refine CW.cut Unit (fun _ w => St w0 w I76 ((bS, x.oS) :: (x.bN, x.oN) :: (x.Ld ++ (x.La ++ (x.Lx ++ L))))) (fun _ => [(1, vl), (2, vk), (7, (.pointer (some ad))), (8, .int .i64 (n : Nat)), (9, .map (some bS)), (11, vz), (10, .map (some x.bN)), (12, x.va), (13, x.vx), (14, .int .i64 x.S.left), (15, .bool x.S.down), (16, .int .i64 (3 * (k : Nat))), (17, .int .i64 at_), (18, vb), (19, .bool (decide (0 ≤ at_ ∧ at_ < (n : Int))))]) ?_ ?_
          · -- region 18
            refine CW.region ?_
            refine RW.op1 rfl (runs_move rfl) ?_
            refine RW.op1 rfl (runs_geq rfl rfl) ?_
            refine RW.op1 rfl (runs_move rfl) ?_
            refine RW.split (t := 88) rfl (fun hb88 => ?_) (fun hb88 => ?_)
            · have hb88p := hb88
              try simp only [decide_eq_true_eq, decide_eq_false_iff_not] at hb88p
              refine RW.on_guard rfl rfl rfl rfl hb88 ?_
              refine RW.op1 rfl (runs_move rfl) ?_
              refine RW.on_guard rfl rfl rfl rfl hb88 ?_
              refine RW.op1 rfl (runs_move rfl) ?_
              refine RW.on_guard rfl rfl rfl rfl hb88 ?_
              refine RW.op1 rfl (runs_lss rfl rfl) ?_
              refine RW.op1 rfl (runs_pick_true rfl hb88 rfl) ?_
              refine RW.op1 rfl (runs_assign rfl) ?_
              refine RW.done ?_
              exact AQ.meet () hst ⟨rfl, rfl, rfl, rfl, rfl, rfl, rfl, rfl, rfl, rfl, rfl, rfl, rfl, rfl, (by first | exact congrArg (fun z => some (Value.bool z)) (inb_1 (by omega)) | exact congrArg (fun z => some (Value.bool z)) (inb_2 (by omega))), trivial⟩
            · have hb88p := hb88
              try simp only [decide_eq_true_eq, decide_eq_false_iff_not] at hb88p
              refine RW.off_guard rfl rfl rfl rfl hb88 ?_
              refine RW.off_guard rfl rfl rfl rfl hb88 ?_
              refine RW.off_guard rfl rfl rfl rfl hb88 ?_
              refine RW.op1 rfl (runs_pick_false rfl hb88 rfl) ?_
              refine RW.op1 rfl (runs_assign rfl) ?_
              refine RW.done ?_
              exact AQ.meet () hst ⟨rfl, rfl, rfl, rfl, rfl, rfl, rfl, rfl, rfl, rfl, rfl, rfl, rfl, rfl, (by first | exact congrArg (fun z => some (Value.bool z)) (inb_1 (by omega)) | exact congrArg (fun z => some (Value.bool z)) (inb_2 (by omega))), trivial⟩
          · rintro _ w hstn
            clear hst
            have hst := hstn
            clear hstn
            refine AQ.next ?_
            refine CW.seq ?_
            refine CW.seq ?_
            -- region 19
            refine CW.region ?_
            refine RW.op1 rfl (runs_move rfl) ?_
            refine RW.op1 rfl (runs_move rfl) ?_
            refine RW.op1 rfl (RdL.indexAddr Try.underlying42 ti3 (by decide) rfl rfl G.hl (by omega)) ?_
            refine RW.op1 rfl (runs_load1 sc3 rfl (hst.cell_imm (RdI.at G.hl (by omega) (by omega)))) ?_
            refine RW.call rfl call8 rfl rfl (within_spec hst (v := iat ls (3 * (k : Int))) (n := 14) (iat_ok2 hls (by omega) (by omega)) (by unfold i64ok; omega)) ?_
            rintro e w ⟨rfl, hstn⟩
            clear hst
            have hst := hstn
            clear hstn
            have hw97 := within_range (iat ls (3 * (k : Int))) (14)
            generalize hx97 : within (iat ls (3 * (k : Int))) (14) = x97 at *
            refine ⟨_, rfl, ?_⟩
            refine RW.op1 rfl (runs_assign rfl) ?_
            refine RW.done ?_
            refine AQ.next ?_
            refine CW.block ?_
            refine CW.seq ?_
            -- region 25
            refine CW.region ?_
            refine RW.op1 rfl (runs_move rfl) ?_
            refine RW.op1 rfl (runs_lss rfl rfl) ?_
            refine RW.op1 rfl (runs_assign rfl) ?_
            refine RW.done ?_
            refine AQ.next ?_
            refine CW.cut PS (fun y w => PWd w0 w L bS y ∧ PGood (.pointer (some ad)) n vl ls vk ks vz y ∧ I.le y.J ∧ y.S.pend.length ≤ k + 1) (fun y => [(1, vl), (2, vk), (7, (.pointer (some ad))), (8, .int .i64 (n : Nat)), (9, .map (some bS)), (11, vz), (10, .map (some y.bN)), (12, y.va), (13, y.vx), (14, .int .i64 y.S.left), (15, .bool y.S.down), (16, .int .i64 (3 * (k : Nat)))]) ?_ ?_
            · refine CW.cond rfl (fun hc127 => ?_) (fun hc127 => ?_)
              · have hcb127 := hc127
                try simp only [decide_eq_true_eq, decide_eq_false_iff_not] at hc127
                refine CW.seq ?_
                -- region 26
                refine CW.region ?_
                refine RW.op1 rfl (runs_assign rfl) ?_
                refine RW.done ?_
                refine AQ.next ?_
                refine CW.seq ?_
                refine CW.block ?_
                refine CW.seq ?_
                -- region 27
                refine CW.region ?_
                refine RW.op1 rfl (runs_move rfl) ?_
                refine RW.op1 rfl (runs_assign rfl) ?_
                refine RW.done ?_
                refine AQ.next ?_
                refine CW.cut Unit (fun _ w => St w0 w I76 ((bS, x.oS) :: (x.bN, x.oN) :: (x.Ld ++ (x.La ++ (x.Lx ++ L))))) (fun _ => [(1, vl), (2, vk), (7, (.pointer (some ad))), (8, .int .i64 (n : Nat)), (9, .map (some bS)), (11, vz), (10, .map (some x.bN)), (12, x.va), (13, x.vx), (14, .int .i64 x.S.left), (15, .bool (writeR x.S at_ b).1.down), (16, .int .i64 (3 * (k : Nat))), (17, .int .i64 at_), (18, vb), (21, .int .i64 (writeR x.S at_ b).2)]) ?_ ?_
                · refine CW.cond rfl (fun hc130 => ?_) (fun hc130 => ?_)
                  · have hcb130 := hc130
                    try simp only [decide_eq_true_eq, decide_eq_false_iff_not] at hc130
                    -- region 28
                    refine CW.region ?_
                    have hw := write_no (b := b) (may_down (a := at_) hcb130) (by decide)
                    have hw15 := hcb130
                    refine RW.op1 rfl (runs_assign rfl) ?_
                    refine RW.done ?_
                    exact AQ.meet () hst ⟨rfl, rfl, rfl, rfl, rfl, rfl, rfl, rfl, rfl, rfl, (by rw [hw]; first | done | rfl | (show some (Value.bool x.S.down) = some (Value.bool x.S.down); rfl)), rfl, rfl, rfl, (by rw [hw]; first | done | rfl), trivial⟩
                  · have hcb130 := hc130
                    try simp only [decide_eq_true_eq, decide_eq_false_iff_not] at hc130
                    refine CW.seq ?_
                    -- region 29
                    refine CW.region ?_
                    refine RW.op1 rfl (runs_move rfl) ?_
                    refine RW.op1 rfl (runs_not rfl) ?_
                    refine RW.op1 rfl (runs_assign rfl) ?_
                    refine RW.done ?_
                    refine AQ.next ?_
                    refine CW.cond rfl (fun hc132 => ?_) (fun hc132 => ?_)
                    · have hcb132 := hc132
                      try simp only [decide_eq_true_eq, decide_eq_false_iff_not] at hc132
                      -- region 30
                      refine CW.region ?_
                      have hnin : ¬ (0 ≤ at_ ∧ at_ < (n : Int)) := fun h3 => by rw [decide_eq_true h3] at hcb132; cases hcb132
                      have hw := write_no (b := b) (may_out (S := x.S) (a := at_) hcb130 (by have := G.hn; dsimp only at this; omega)) (by decide)
                      refine RW.op1 rfl (runs_assign rfl) ?_
                      refine RW.done ?_
                      exact AQ.meet () hst ⟨rfl, rfl, rfl, rfl, rfl, rfl, rfl, rfl, rfl, rfl, (by rw [hw]; first | done | rfl | (show some (Value.bool x.S.down) = some (Value.bool x.S.down); rfl)), rfl, rfl, rfl, (by rw [hw]; first | done | rfl), trivial⟩
                    · have hcb132 := hc132
                      try simp only [decide_eq_true_eq, decide_eq_false_iff_not] at hc132
                      refine CW.seq ?_
                      -- region 31
                      refine CW.region ?_
                      refine RW.op1 rfl (runs_move rfl) ?_
                      refine RW.op1 rfl (RdL.len Try.underlying26 rfl hb) ?_
                      refine RW.op1 rfl (runs_neI rfl rfl) ?_
                      refine RW.op1 rfl (runs_assign rfl) ?_
                      refine RW.done ?_
                      refine AQ.next ?_
                      refine CW.cond rfl (fun hc135 => ?_) (fun hc135 => ?_)
                      · have hcb135 := hc135
                        try simp only [decide_eq_true_eq, decide_eq_false_iff_not] at hc135
                        -- region 32
                        refine CW.region ?_
                        have hin : 0 ≤ at_ ∧ at_ < (n : Int) := by
                          by_cases h3 : 0 ≤ at_ ∧ at_ < (n : Int)
                          · exact h3
                          · rw [decide_eq_false h3] at hcb132; cases hcb132
                        have hw := write_arg (b := b) (may_in (S := x.S) (a := at_) hcb130 hin.1 (by have := G.hn; dsimp only at this; omega)) (by omega)
                        refine RW.op1 rfl (runs_assign rfl) ?_
                        refine RW.done ?_
                        exact AQ.meet () hst ⟨rfl, rfl, rfl, rfl, rfl, rfl, rfl, rfl, rfl, rfl, (by rw [hw]; first | done | rfl | (show some (Value.bool x.S.down) = some (Value.bool x.S.down); rfl)), rfl, rfl, rfl, (by rw [hw]; first | done | rfl), trivial⟩
                      · have hcb135 := hc135
                        try simp only [decide_eq_true_eq, decide_eq_false_iff_not] at hc135
                        refine CW.seq ?_
                        -- region 33
                        refine CW.region ?_
                        refine RW.op1 rfl (runs_move rfl) ?_
                        refine RW.op1 rfl (runs_eqI rfl rfl) ?_
                        refine RW.op1 rfl (runs_assign rfl) ?_
                        refine RW.done ?_
                        refine AQ.next ?_
                        refine CW.cond rfl (fun hc139 => ?_) (fun hc139 => ?_)
                        · have hcb139 := hc139
                          try simp only [decide_eq_true_eq, decide_eq_false_iff_not] at hc139
                          skip
                          -- region 34
                          refine CW.region ?_
                          have hin : 0 ≤ at_ ∧ at_ < (n : Int) := by
                            by_cases h3 : 0 ≤ at_ ∧ at_ < (n : Int)
                            · exact h3
                            · rw [decide_eq_false h3] at hcb132; cases hcb132
                          have hw := write_dry (b := b) (may_in (S := x.S) (a := at_) hcb130 hin.1 (by have := G.hn; dsimp only at this; omega)) (by omega) hc139
                          refine RW.op1 rfl (runs_assign rfl) ?_
                          refine RW.op1 rfl (runs_assign rfl) ?_
                          refine RW.done ?_
                          exact AQ.meet () hst ⟨rfl, rfl, rfl, rfl, rfl, rfl, rfl, rfl, rfl, rfl, (by rw [hw]; first | done | rfl | (show some (Value.bool x.S.down) = some (Value.bool x.S.down); rfl)), rfl, rfl, rfl, (by rw [hw]; first | done | rfl), trivial⟩
                        · have hcb139 := hc139
                          try simp only [decide_eq_true_eq, decide_eq_false_iff_not] at hc139
                          have hin : 0 ≤ at_ ∧ at_ < (n : Int) := by
                            by_cases h3 : 0 ≤ at_ ∧ at_ < (n : Int)
                            · exact h3
                            · rw [decide_eq_false h3] at hcb132; cases hcb132
                          have hw := write_ok (b := b) (may_in (S := x.S) (a := at_) hcb130 hin.1 (by have := G.hn; dsimp only at this; omega)) (by omega) hc139
                          refine CW.skip ?_
                          exact AQ.meet () hst ⟨rfl, rfl, rfl, rfl, rfl, rfl, rfl, rfl, rfl, rfl, (by rw [hw]; first | done | rfl | (show some (Value.bool x.S.down) = some (Value.bool x.S.down); rfl)), rfl, rfl, rfl, (by rw [hw]; first | done | rfl), trivial⟩
                · rintro _ w hstn
                  clear hst
                  have hst := hstn
                  clear hstn
                  refine AQ.block_normal ?_
                  refine AQ.next ?_
                  refine CW.seq ?_
                  refine CW.seq ?_
                  -- region 35
                  refine CW.region ?_
                  refine RW.op1 rfl (runs_move rfl) ?_
                  refine RW.op1 rfl (runs_move rfl) ?_
                  refine RW.op1 rfl (runs_move rfl) ?_
                  refine RW.call rfl call12 rfl rfl (write_spec G.hd (hst.perm (perm_mm _ _ _ _)) at_ hb (by dsimp only; omega)) ?_
                  rintro e w ⟨IW, LdW, hIW, rfl, hstn, hdW⟩
                  clear hst
                  have hst := hstn
                  clear hstn
                  replace hst := hst.perm (perm_mm _ _ _ _).symm
                  replace G := G.mono hIW
                  replace hb := hb.mono hIW
                  replace hle := hle.trans hIW
                  refine ⟨_, rfl, ?_⟩
                  refine RW.op1 rfl (runs_move rfl) ?_
                  refine RW.op1 rfl (runs_neI rfl rfl) ?_
                  refine RW.done ?_
                  refine AQ.next ?_
                  refine CW.cond rfl (fun hc => absurd hc (by simp)) (fun hc => ?_)
                  refine CW.skip ?_
                  refine AQ.next ?_
                  refine CW.seq ?_
                  -- region 37
                  refine CW.region ?_
                  refine RW.op1 rfl (runs_move rfl) ?_
                  refine RW.op1 rfl (runs_eqI rfl rfl) ?_
                  refine RW.done ?_
                  refine AQ.next ?_
                  refine CW.cond rfl (fun hc149 => ?_) (fun hc149 => ?_)
                  · have hcb149 := hc149
                    try simp only [decide_eq_true_eq, decide_eq_false_iff_not] at hc149
                    have hwy := writeR_yes hc149
                    refine CW.seq ?_
                    -- region 38
                    refine CW.region ?_
                    refine RW.op1 rfl (runs_move rfl) ?_
                    refine RW.op1 rfl (runs_move rfl) ?_
                    refine RW.op1 rfl (runs_move rfl) ?_
                    refine RW.op1 rfl (runs_move rfl) ?_
                    refine RW.opE rfl (runs_lit1R Try.underlying42 ti3 (by decide) rfl rfl rfl (by simp [Value.oneCell']) hst) ?_
                    rintro u10 w ⟨I10, hI10, hstn, h10⟩
                    clear hst
                    have hst := hstn
                    clear hstn
                    replace G := G.mono hI10
                    replace hb := hb.mono hI10
                    replace hle := hle.trans hI10
                    refine RW.opE rfl (runs_appendR Try.underlying42 ti3 rfl (by decide) rfl rfl (hst.perm (perm_mA _ _ _ _ _)) G.gA (by assumption) (by dsimp only; omega) (by dsimp only; unfold maxLen; omega)) ?_
                    rintro u11 w ⟨LaW, hstn, hgA⟩
                    clear hst
                    have hst := hstn
                    clear hstn
                    replace hst := hst.perm (perm_mA _ _ _ _ _).symm
                    refine RW.op1 rfl (runs_move rfl) ?_
                    refine RW.op1 rfl (runs_move rfl) ?_
                    refine RW.opE rfl (runs_lit1R Try.underlying45 ti26 (by decide) rfl rfl rfl (by intro u hu; rw [List.mem_singleton.1 hu]; exact hb.one) hst) ?_
                    rintro u12 w ⟨I12, hI12, hstn, h12⟩
                    clear hst
                    have hst := hstn
                    clear hstn
                    replace G := G.mono hI12
                    replace hb := hb.mono hI12
                    replace h10 := h10.mono hI12
                    replace hle := hle.trans hI12
                    refine RW.opE rfl (runs_appendR Try.underlying45 ti26 rfl (by decide) rfl rfl (hst.perm (perm_mX _ _ _ _ _ _)) G.gX (by assumption) (by dsimp only; omega) (by dsimp only; unfold maxLen; omega)) ?_
                    rintro u13 w ⟨LxW, hstn, hgX⟩
                    clear hst
                    have hst := hstn
                    clear hstn
                    replace hst := hst.perm (perm_mX _ _ _ _ _ _).symm
                    refine RW.op1 rfl (runs_move rfl) ?_
                    refine RW.op1 rfl (runs_assign rfl) ?_
                    refine RW.op1 rfl (runs_assign rfl) ?_
                    refine RW.opE0 (runs_mapUpdate (keyI Try.underlying3) Try.underlying44 (key := at_) rfl rfl rfl hst (i := 1) rfl G.mN) ?_
                    rintro w ⟨oNW, hstn, hmN⟩
                    clear hst
                    have hst := hstn
                    clear hstn
                    simp only [List.set_cons_succ, List.set_cons_zero] at hst
                    have G3 := PGood.write G hc149 hdW hb hmN hgA hgX
                    have hpw : (writeR x.S at_ b).1.pend.length ≤ k + 1 := by rw [hwy.2.2.2]; show (x.S.pend ++ [(at_, b)]).length ≤ k + 1; rw [List.length_append, List.length_singleton]; omega
                    have hlw : (writeR x.S at_ b).1.left = if x.S.left - 1 > -1 then x.S.left - 1 else -1 := by rw [hwy.2.2.2]
                    have hfin := plays_fin (⟨(writeR x.S at_ b).1, _, LdW, x.bN, x.oS, oNW, x.rS, mput x.rN at_ vb, _, _, LaW, LxW, x.vs ++ [vb]⟩ : PS) (hst) G3 hle hpw
                    refine RW.done ?_
                    refine AQ.next ?_
                    refine CW.seq ?_
                    -- region 39
                    refine CW.region ?_
                    refine RW.op1 rfl (runs_move rfl) ?_
                    refine RW.op1 rfl (runs_gtr rfl rfl) ?_
                    refine RW.done ?_
                    refine AQ.next ?_
                    refine CW.cond rfl (fun hc162 => ?_) (fun hc162 => ?_)
                    · have hcb162 := hc162
                      try simp only [decide_eq_true_eq, decide_eq_false_iff_not] at hc162
                      skip
                      -- region 40
                      refine CW.region ?_
                      refine RW.op1 rfl (runs_move rfl) ?_
                      have hl0 : x.S.left ≤ 9223372036854775807 := G.ok.2.2.2.2
                      refine RW.op1 rfl (runs_sub rfl rfl (by omega)) ?_
                      have h14 : x.S.left - 1 = (writeR x.S at_ b).1.left := by rw [hlw]; split <;> omega
                      refine RW.op1 rfl (runs_assign rfl) ?_
                      refine RW.done ?_
                      exact AQ.meet _ hfin ⟨rfl, rfl, rfl, rfl, rfl, rfl, rfl, rfl, rfl, (by first | rfl | exact congrArg (fun z => some (Value.int .i64 z)) h14), (by first | rfl | exact congrArg (fun z => some (Value.bool z)) h15), rfl, trivial⟩
                    · have hcb162 := hc162
                      try simp only [decide_eq_true_eq, decide_eq_false_iff_not] at hc162
                      have hl0 : -1 ≤ x.S.left := G.ok.2.2.2.1
                      have hl1 := hwy.2.2.1
                      have h14 : x.S.left = (writeR x.S at_ b).1.left := by rw [hlw]; split <;> omega
                      refine CW.skip ?_
                      exact AQ.meet _ hfin ⟨rfl, rfl, rfl, rfl, rfl, rfl, rfl, rfl, rfl, (by first | rfl | exact congrArg (fun z => some (Value.int .i64 z)) h14), (by first | rfl | exact congrArg (fun z => some (Value.bool z)) h15), rfl, trivial⟩
                  · have hcb149 := hc149
                    try simp only [decide_eq_true_eq, decide_eq_false_iff_not] at hc149
                    have hno := writeR_no hc149
                    have G3 := G.same hdW hno.1 hno.2.1
                    have h14 : x.S.left = (writeR x.S at_ b).1.left := hno.2.2.symm
                    have hfin := plays_fin ({ ({ x with J := IW } : PS) with S := (writeR x.S at_ b).1, Ld := LdW } : PS) (hst) G3 hle (show (writeR x.S at_ b).1.pend.length ≤ k + 1 by rw [hno.2.1]; omega)
                    refine CW.skip ?_
                    exact AQ.meet _ hfin ⟨rfl, rfl, rfl, rfl, rfl, rfl, rfl, rfl, rfl, (by first | rfl | exact congrArg (fun z => some (Value.int .i64 z)) h14), (by first | rfl | exact congrArg (fun z => some (Value.bool z)) h15), rfl, trivial⟩
              · have hcb127 := hc127
                try simp only [decide_eq_true_eq, decide_eq_false_iff_not] at hc127
                refine CW.seq ?_
                -- region 41
                refine CW.region ?_
                refine RW.op1 rfl (runs_move rfl) ?_
                refine RW.op1 rfl (runs_lss rfl rfl) ?_
                refine RW.op1 rfl (runs_assign rfl) ?_
                refine RW.done ?_
                refine AQ.next ?_
                refine CW.cond rfl (fun hc165 => ?_) (fun hc165 => ?_)
                · have hcb165 := hc165
                  try simp only [decide_eq_true_eq, decide_eq_false_iff_not] at hc165
                  refine CW.seq ?_
                  -- region 42
                  refine CW.region ?_
                  refine RW.op1 rfl (runs_move rfl) ?_
                  refine RW.op1 rfl (runs_move rfl) ?_
                  refine RW.call rfl call11 rfl rfl (read_spec G.hd (hst.perm (perm_mm _ _ _ _)) at_) ?_
                  rintro e w ⟨IR, vr, hIR, rfl, hstn, hr⟩
                  clear hst
                  have hst := hstn
                  clear hstn
                  replace hst := hst.perm (perm_mm _ _ _ _).symm
                  replace G := G.mono hIR
                  replace hb := hb.mono hIR
                  replace hle := hle.trans hIR
                  refine ⟨_, rfl, ?_⟩
                  refine RW.op1 rfl (runs_move rfl) ?_
                  refine RW.op1 rfl (runs_extract rfl rfl) ?_
                  refine RW.op1 rfl (runs_extract rfl rfl) ?_
                  refine RW.op1 rfl (runs_assign rfl) ?_
                  refine RW.op1 rfl (runs_assign rfl) ?_
                  refine RW.done ?_
                  refine AQ.next ?_
                  refine CW.seq ?_
                  -- region 43
                  refine CW.region ?_
                  refine RW.op1 rfl (runs_assign rfl) ?_
                  refine RW.done ?_
                  refine AQ.next ?_
                  refine CW.seq ?_
                  refine CW.block ?_
                  refine CW.seq ?_
                  -- region 44
                  refine CW.region ?_
                  refine RW.op1 rfl (runs_move rfl) ?_
                  refine RW.op1 rfl (runs_assign rfl) ?_
                  refine RW.done ?_
                  refine AQ.next ?_
                  refine CW.cut Unit (fun _ w => St w0 w IR ((bS, x.oS) :: (x.bN, x.oN) :: (x.Ld ++ (x.La ++ (x.Lx ++ L))))) (fun _ => [(1, vl), (2, vk), (7, (.pointer (some ad))), (8, .int .i64 (n : Nat)), (9, .map (some bS)), (11, vz), (10, .map (some x.bN)), (12, x.va), (13, x.vx), (14, .int .i64 x.S.left), (15, .bool x.S.down), (16, .int .i64 (3 * (k : Nat))), (17, .int .i64 at_), (22, vr), (23, .int .i64 (mayR x.S at_)), (24, .int .i64 (mayR x.S at_))]) ?_ ?_
                  · refine CW.cond rfl (fun hc174 => ?_) (fun hc174 => ?_)
                    · have hcb174 := hc174
                      try simp only [decide_eq_true_eq, decide_eq_false_iff_not] at hc174
                      -- region 45
                      refine CW.region ?_
                      have hw := may_down (a := at_) hcb174
                      refine RW.op1 rfl (runs_assign rfl) ?_
                      refine RW.done ?_
                      exact AQ.meet () hst ⟨rfl, rfl, rfl, rfl, rfl, rfl, rfl, rfl, rfl, rfl, rfl, rfl, rfl, rfl, rfl, (by rw [hw]; first | done | rfl), trivial⟩
                    · have hcb174 := hc174
                      try simp only [decide_eq_true_eq, decide_eq_false_iff_not] at hc174
                      refine CW.seq ?_
                      -- region 46
                      refine CW.region ?_
                      refine RW.op1 rfl (runs_move rfl) ?_
                      refine RW.op1 rfl (runs_not rfl) ?_
                      refine RW.op1 rfl (runs_assign rfl) ?_
                      refine RW.done ?_
                      refine AQ.next ?_
                      refine CW.cond rfl (fun hc176 => ?_) (fun hc176 => ?_)
                      · have hcb176 := hc176
                        try simp only [decide_eq_true_eq, decide_eq_false_iff_not] at hc176
                        skip
                        -- region 47
                        refine CW.region ?_
                        have hnin : ¬ (0 ≤ at_ ∧ at_ < (n : Int)) := fun h3 => by rw [decide_eq_true h3] at hcb176; cases hcb176
                        have hw := may_out (S := x.S) (a := at_) hcb174 (by have := G.hn; dsimp only at this; omega)
                        refine RW.op1 rfl (runs_assign rfl) ?_
                        refine RW.done ?_
                        exact AQ.meet () hst ⟨rfl, rfl, rfl, rfl, rfl, rfl, rfl, rfl, rfl, rfl, rfl, rfl, rfl, rfl, rfl, (by rw [hw]; first | done | rfl), trivial⟩
                      · have hcb176 := hc176
                        try simp only [decide_eq_true_eq, decide_eq_false_iff_not] at hc176
                        have hin : 0 ≤ at_ ∧ at_ < (n : Int) := by
                          by_cases h3 : 0 ≤ at_ ∧ at_ < (n : Int)
                          · exact h3
                          · rw [decide_eq_false h3] at hcb176; cases hcb176
                        have hw := may_in (S := x.S) (a := at_) hcb174 hin.1 (by have := G.hn; dsimp only at this; omega)
                        refine CW.skip ?_
                        exact AQ.meet () hst ⟨rfl, rfl, rfl, rfl, rfl, rfl, rfl, rfl, rfl, rfl, rfl, rfl, rfl, rfl, rfl, (by rw [hw]; first | done | rfl), trivial⟩
                  · rintro _ w hstn
                    clear hst
                    have hst := hstn
                    clear hstn
                    refine AQ.block_normal ?_
                    refine AQ.next ?_
                    refine CW.seq ?_
                    -- region 48
                    refine CW.region ?_
                    refine RW.op1 rfl (runs_move rfl) ?_
                    refine RW.op1 rfl (runs_move rfl) ?_
                    obtain ⟨A1, m1, c1, hlk, hA0, hA1⟩ := look G.valN at_
                    refine RW.op1 rfl (runs_lookup (keyI Try.underlying3) Try.underlying44 ti26 (key := at_) rfl rfl hst (i := 1) rfl G.mN) ?_
                    dsimp only at hlk hA0 hA1 ⊢
                    rw [hlk]
                    have hin9 : mayR x.S at_ = 0 → 0 ≤ at_ ∧ at_ < (n : Int) := fun h => by have h2 := mayR_ok h; have := G.hn; dsimp only at this; omega
                    refine RW.op1 rfl (runs_assign rfl) ?_
                    refine RW.done ?_
                    refine AQ.next ?_
                    refine CW.seq ?_
                    refine CW.seq ?_
                    -- region 49
                    refine CW.region ?_
                    refine RW.op1 rfl (runs_move rfl) ?_
                    refine RW.op1 rfl (runs_eq_nilslice Try.underlying26 rfl) ?_
                    refine RW.done ?_
                    refine AQ.next ?_
                    refine CW.cut Value (fun y w => St w0 w IR ((bS, x.oS) :: (x.bN, x.oN) :: (x.Ld ++ (x.La ++ (x.Lx ++ L)))) ∧ (mayR x.S at_ = 0 → RdB IR y (readR x.S at_))) (fun y => [(1, vl), (2, vk), (7, (.pointer (some ad))), (8, .int .i64 (n : Nat)), (9, .map (some bS)), (11, vz), (10, .map (some x.bN)), (12, x.va), (13, x.vx), (14, .int .i64 x.S.left), (15, .bool x.S.down), (16, .int .i64 (3 * (k : Nat))), (22, vr), (23, .int .i64 (mayR x.S at_)), (24, .int .i64 (mayR x.S at_)), (25, y)]) ?_ ?_
                    · refine CW.cond rfl (fun hc183 => ?_) (fun hc183 => ?_)
                      · have hcb183 := hc183
                        try simp only [decide_eq_true_eq, decide_eq_false_iff_not] at hc183
                        -- region 50
                        refine CW.region ?_
                        refine RW.op1 rfl (runs_move rfl) ?_
                        refine RW.op1 rfl (runs_assign rfl) ?_
                        refine RW.done ?_
                        first
                          | exact AQ.meet vz ⟨hst, fun h => by rw [PGood.nowAt0 G (hin9 h).1 (hin9 h).2 (hA0 hcb183)]; exact G.hz⟩ ⟨rfl, rfl, rfl, rfl, rfl, rfl, rfl, rfl, rfl, rfl, rfl, rfl, rfl, rfl, rfl, rfl, trivial⟩
                          | exact AQ.meet _ ⟨hst, fun h => PGood.nowAt G (hin9 h).1 (hin9 h).2 hA1 hcb183⟩ ⟨rfl, rfl, rfl, rfl, rfl, rfl, rfl, rfl, rfl, rfl, rfl, rfl, rfl, rfl, rfl, rfl, trivial⟩
                      · have hcb183 := hc183
                        try simp only [decide_eq_true_eq, decide_eq_false_iff_not] at hc183
                        refine CW.skip ?_
                        first
                          | exact AQ.meet vz ⟨hst, fun h => by rw [PGood.nowAt0 G (hin9 h).1 (hin9 h).2 (hA0 hcb183)]; exact G.hz⟩ ⟨rfl, rfl, rfl, rfl, rfl, rfl, rfl, rfl, rfl, rfl, rfl, rfl, rfl, rfl, rfl, rfl, trivial⟩
                          | exact AQ.meet _ ⟨hst, fun h => PGood.nowAt G (hin9 h).1 (hin9 h).2 hA1 hcb183⟩ ⟨rfl, rfl, rfl, rfl, rfl, rfl, rfl, rfl, rfl, rfl, rfl, rfl, rfl, rfl, rfl, rfl, trivial⟩
                    · rintro vy w ⟨hstn, hy⟩
                      clear hst
                      have hst := hstn
                      clear hstn
                      refine AQ.next ?_
                      refine CW.seq ?_
                      -- region 51
                      refine CW.cut Unit (fun _ w => St w0 w IR ((bS, x.oS) :: (x.bN, x.oN) :: (x.Ld ++ (x.La ++ (x.Lx ++ L))))) (fun _ => [(1, vl), (2, vk), (7, (.pointer (some ad))), (8, .int .i64 (n : Nat)), (9, .map (some bS)), (11, vz), (10, .map (some x.bN)), (12, x.va), (13, x.vx), (14, .int .i64 x.S.left), (15, .bool x.S.down), (16, .int .i64 (3 * (k : Nat))), (206, .bool false)]) ?_ ?_
                      · -- region 51
                        refine CW.region ?_
                        refine RW.op1 rfl (runs_move rfl) ?_
                        refine RW.op1 rfl (runs_move rfl) ?_
                        refine RW.op1 rfl (runs_neI rfl rfl) ?_
                        refine RW.op1 rfl (runs_move rfl) ?_
                        have hk188 := (show decide (mayR x.S at_ ≠ mayR x.S at_) = false by simp)
                        refine RW.on_guard rfl rfl rfl rfl hk188 ?_
                        refine RW.op1 rfl (runs_move rfl) ?_
                        refine RW.on_guard rfl rfl rfl rfl hk188 ?_
                        refine RW.op1 rfl (runs_eqI rfl rfl) ?_
                        refine RW.on_guard rfl rfl rfl rfl hk188 ?_
                        refine RW.op1 rfl (runs_move rfl) ?_
                        refine RW.split (t := 191) rfl (fun hb191 => ?_) (fun hb191 => ?_)
                        · have hb191p := hb191
                          try simp only [decide_eq_true_eq, decide_eq_false_iff_not] at hb191p
                          skip
                          refine RW.on_guard rfl rfl rfl rfl hb191 ?_
                          refine RW.op1 rfl (runs_move rfl) ?_
                          refine RW.on_guard rfl rfl rfl rfl hb191 ?_
                          refine RW.op1 rfl (runs_move rfl) ?_
                          refine RW.on_guard rfl rfl rfl rfl hb191 ?_
                          refine RW.call rfl call18 rfl rfl (same_spec hst (by rw [if_pos hb191p] at hr; exact hr) (hy hb191p) (by have h2 := mayR_ok hb191p; have h3 := readTo_len G.ok h2.2.1 h2.2.2 x.S.pend.length; rw [readTo_end (Nat.le_refl _)] at h3; show (readR x.S at_).length ≤ _; dsimp only at h3; omega)) ?_
                          rintro e w ⟨rfl, hstn⟩
                          clear hst
                          have hst := hstn
                          clear hstn
                          refine ⟨_, rfl, ?_⟩
                          refine RW.on_guard rfl rfl rfl rfl hb191 ?_
                          refine RW.op1 rfl (runs_not rfl) ?_
                          refine RW.on_guard rfl rfl rfl rfl hk188 ?_
                          refine RW.op1 rfl (runs_pick_true rfl hb191 rfl) ?_
                          refine RW.op1 rfl (runs_pick_false rfl hk188 rfl) ?_
                          refine RW.op1 rfl (runs_move rfl) ?_
                          have hk198 := (show (!decide (readR x.S at_ = readR x.S at_)) = false by simp)
                          refine RW.on_guard rfl rfl rfl rfl hk198 ?_
                          refine RW.op1 rfl (runs_move rfl) ?_
                          refine RW.on_guard rfl rfl rfl rfl hk198 ?_
                          refine RW.op1 rfl (runs_neI rfl rfl) ?_
                          refine RW.on_guard rfl rfl rfl rfl hk198 ?_
                          refine RW.op1 rfl (runs_move rfl) ?_
                          refine RW.split (t := 201) rfl (fun hb201 => ?_) (fun hb201 => ?_)
                          · have hb201p := hb201
                            try simp only [decide_eq_true_eq, decide_eq_false_iff_not] at hb201p
                            skip
                            refine RW.on_guard rfl rfl rfl rfl hb201 ?_
                            refine RW.op1 rfl (runs_move rfl) ?_
                            refine RW.on_guard rfl rfl rfl rfl hb201 ?_
                            have hr3 : RdB IR vr [] := by rw [if_neg hb201p] at hr; exact hr
                            refine RW.op1 rfl (RdL.len Try.underlying26 rfl hr3) ?_
                            refine RW.on_guard rfl rfl rfl rfl hb201 ?_
                            refine RW.op1 rfl (runs_neI rfl rfl) ?_
                            refine RW.on_guard rfl rfl rfl rfl hk198 ?_
                            refine RW.op1 rfl (runs_pick_true rfl hb201 rfl) ?_
                            refine RW.op1 rfl (runs_pick_false rfl hk198 rfl) ?_
                            refine RW.done ?_
                            exact AQ.meet () hst ⟨rfl, rfl, rfl, rfl, rfl, rfl, rfl, rfl, rfl, rfl, rfl, rfl, (by first | rfl | (show some (Value.bool (decide _)) = _; simp)), trivial⟩
                          · have hb201p := hb201
                            try simp only [decide_eq_true_eq, decide_eq_false_iff_not] at hb201p
                            skip
                            refine RW.off_guard rfl rfl rfl rfl hb201 ?_
                            refine RW.off_guard rfl rfl rfl rfl hb201 ?_
                            refine RW.off_guard rfl rfl rfl rfl hb201 ?_
                            refine RW.on_guard rfl rfl rfl rfl hk198 ?_
                            refine RW.op1 rfl (runs_pick_false rfl hb201 rfl) ?_
                            refine RW.op1 rfl (runs_pick_false rfl hk198 rfl) ?_
                            refine RW.done ?_
                            exact AQ.meet () hst ⟨rfl, rfl, rfl, rfl, rfl, rfl, rfl, rfl, rfl, rfl, rfl, rfl, (by first | rfl | (show some (Value.bool (decide _)) = _; simp)), trivial⟩
                        · have hb191p := hb191
                          try simp only [decide_eq_true_eq, decide_eq_false_iff_not] at hb191p
                          skip
                          refine RW.off_guard rfl rfl rfl rfl hb191 ?_
                          refine RW.off_guard rfl rfl rfl rfl hb191 ?_
                          refine RW.off_guard rfl rfl rfl rfl hb191 ?_
                          refine RW.off_guard rfl rfl rfl rfl hb191 ?_
                          refine RW.on_guard rfl rfl rfl rfl hk188 ?_
                          refine RW.op1 rfl (runs_pick_false rfl hb191 rfl) ?_
                          refine RW.op1 rfl (runs_pick_false rfl hk188 rfl) ?_
                          refine RW.op1 rfl (runs_move rfl) ?_
                          refine RW.on_guard rfl rfl rfl rfl rfl ?_
                          refine RW.op1 rfl (runs_move rfl) ?_
                          refine RW.on_guard rfl rfl rfl rfl rfl ?_
                          refine RW.op1 rfl (runs_neI rfl rfl) ?_
                          refine RW.on_guard rfl rfl rfl rfl rfl ?_
                          refine RW.op1 rfl (runs_move rfl) ?_
                          refine RW.split (t := 201) rfl (fun hb201 => ?_) (fun hb201 => ?_)
                          · have hb201p := hb201
                            try simp only [decide_eq_true_eq, decide_eq_false_iff_not] at hb201p
                            skip
                            refine RW.on_guard rfl rfl rfl rfl hb201 ?_
                            refine RW.op1 rfl (runs_move rfl) ?_
                            refine RW.on_guard rfl rfl rfl rfl hb201 ?_
                            have hr3 : RdB IR vr [] := by rw [if_neg hb201p] at hr; exact hr
                            refine RW.op1 rfl (RdL.len Try.underlying26 rfl hr3) ?_
                            refine RW.on_guard rfl rfl rfl rfl hb201 ?_
                            refine RW.op1 rfl (runs_neI rfl rfl) ?_
                            refine RW.on_guard rfl rfl rfl rfl rfl ?_
                            refine RW.op1 rfl (runs_pick_true rfl hb201 rfl) ?_
                            refine RW.op1 rfl (runs_pick_false rfl rfl rfl) ?_
                            refine RW.done ?_
                            exact AQ.meet () hst ⟨rfl, rfl, rfl, rfl, rfl, rfl, rfl, rfl, rfl, rfl, rfl, rfl, (by first | rfl | (show some (Value.bool (decide _)) = _; simp)), trivial⟩
                          · have hb201p := hb201
                            try simp only [decide_eq_true_eq, decide_eq_false_iff_not] at hb201p
                            skip
                            refine RW.off_guard rfl rfl rfl rfl hb201 ?_
                            refine RW.off_guard rfl rfl rfl rfl hb201 ?_
                            refine RW.off_guard rfl rfl rfl rfl hb201 ?_
                            refine RW.on_guard rfl rfl rfl rfl rfl ?_
                            refine RW.op1 rfl (runs_pick_false rfl hb201 rfl) ?_
                            refine RW.op1 rfl (runs_pick_false rfl rfl rfl) ?_
                            refine RW.done ?_
                            exact AQ.meet () hst ⟨rfl, rfl, rfl, rfl, rfl, rfl, rfl, rfl, rfl, rfl, rfl, rfl, (by first | rfl | (show some (Value.bool (decide _)) = _; simp)), trivial⟩
                      · rintro _ w hstn
                        clear hst
                        have hst := hstn
                        clear hstn
                        have hfin := plays_fin ({ x with J := IR } : PS) hst G hle (show x.S.pend.length ≤ k + 1 by omega)
                        refine AQ.next ?_
                        refine CW.cond rfl (fun hc => absurd hc (by decide)) (fun hc => ?_)
                        refine CW.skip ?_
                        exact AQ.meet _ hfin ⟨rfl, rfl, rfl, rfl, rfl, rfl, rfl, rfl, rfl, (by first | rfl | exact congrArg (fun z => some (Value.int .i64 z)) h14), (by first | rfl | exact congrArg (fun z => some (Value.bool z)) h15), rfl, trivial⟩
                · have hcb165 := hc165
                  try simp only [decide_eq_true_eq, decide_eq_false_iff_not] at hc165
                  refine CW.seq ?_
                  -- region 53
                  refine CW.region ?_
                  refine RW.op1 rfl (runs_move rfl) ?_
                  refine RW.op1 rfl (runs_lss rfl rfl) ?_
                  refine RW.op1 rfl (runs_assign rfl) ?_
                  refine RW.done ?_
                  refine AQ.next ?_
                  refine CW.cond rfl (fun hc207 => ?_) (fun hc207 => ?_)
                  · have hcb207 := hc207
                    try simp only [decide_eq_true_eq, decide_eq_false_iff_not] at hc207
                    refine CW.seq ?_
                    -- region 54
                    refine CW.region ?_
                    refine RW.op1 rfl (runs_move rfl) ?_
                    refine RW.call rfl call22 rfl rfl (flush_spec G.hd (hst.perm (perm_mm _ _ _ _))) ?_
                    rintro e w ⟨LdF, rfl, hstn, hdF⟩
                    clear hst
                    have hst := hstn
                    clear hstn
                    replace hst := hst.perm (perm_mm _ _ _ _).symm
                    refine ⟨_, rfl, ?_⟩
                    refine RW.op1 rfl (runs_assign rfl) ?_
                    refine RW.done ?_
                    refine AQ.next ?_
                    refine CW.seq ?_
                    refine CW.seq ?_
                    -- region 55
                    refine CW.cut Unit (fun _ w => St w0 w I76 ((bS, x.oS) :: (x.bN, x.oN) :: (LdF ++ (x.La ++ (x.Lx ++ L))))) (fun _ => [(1, vl), (2, vk), (7, (.pointer (some ad))), (8, .int .i64 (n : Nat)), (9, .map (some bS)), (11, vz), (10, .map (some x.bN)), (12, x.va), (13, x.vx), (14, .int .i64 x.S.left), (15, .bool x.S.down), (16, .int .i64 (3 * (k : Nat))), (223, .bool false)]) ?_ ?_
                    · -- region 55
                      refine CW.region ?_
                      refine RW.op1 rfl (runs_move rfl) ?_
                      refine RW.op1 rfl (runs_eqI rfl rfl) ?_
                      rw [fl8]
                      refine RW.op1 rfl (runs_move rfl) ?_
                      refine RW.op1 rfl (runs_neB Try.underlying4 rfl rfl) ?_
                      refine RW.op1 rfl (runs_move rfl) ?_
                      have hk216 := (show (!(x.S.down == x.S.down)) = false by simp)
                      refine RW.on_guard rfl rfl rfl rfl hk216 ?_
                      refine RW.op1 rfl (runs_move rfl) ?_
                      refine RW.on_guard rfl rfl rfl rfl hk216 ?_
                      refine RW.op1 rfl (runs_not rfl) ?_
                      refine RW.on_guard rfl rfl rfl rfl hk216 ?_
                      refine RW.op1 rfl (runs_move rfl) ?_
                      refine RW.split (t := 219) rfl (fun hb219 => ?_) (fun hb219 => ?_)
                      · have hb219p := hb219
                        try simp only [decide_eq_true_eq, decide_eq_false_iff_not] at hb219p
                        have hf0 := fl0 (S := x.S) (by simpa using hb219)
                        refine RW.on_guard rfl rfl rfl rfl hb219 ?_
                        refine RW.op1 rfl (runs_move rfl) ?_
                        refine RW.on_guard rfl rfl rfl rfl hb219 ?_
                        refine RW.op1 rfl (runs_neI rfl rfl) ?_
                        refine RW.on_guard rfl rfl rfl rfl hk216 ?_
                        refine RW.op1 rfl (runs_pick_true rfl hb219 rfl) ?_
                        refine RW.op1 rfl (runs_pick_false rfl hk216 rfl) ?_
                        refine RW.done ?_
                        exact AQ.meet () hst ⟨rfl, rfl, rfl, rfl, rfl, rfl, rfl, rfl, rfl, rfl, rfl, rfl, (by first | rfl | (rw [hf0]; rfl)), trivial⟩
                      · have hb219p := hb219
                        try simp only [decide_eq_true_eq, decide_eq_false_iff_not] at hb219p
                        skip
                        refine RW.off_guard rfl rfl rfl rfl hb219 ?_
                        refine RW.off_guard rfl rfl rfl rfl hb219 ?_
                        refine RW.on_guard rfl rfl rfl rfl hk216 ?_
                        refine RW.op1 rfl (runs_pick_false rfl hb219 rfl) ?_
                        refine RW.op1 rfl (runs_pick_false rfl hk216 rfl) ?_
                        refine RW.done ?_
                        exact AQ.meet () hst ⟨rfl, rfl, rfl, rfl, rfl, rfl, rfl, rfl, rfl, rfl, rfl, rfl, (by first | rfl | (rw [hf0]; rfl)), trivial⟩
                    · rintro _ w hstn
                      clear hst
                      have hst := hstn
                      clear hstn
                      refine AQ.next ?_
                      refine CW.cond rfl (fun hc => absurd hc (by decide)) (fun hc => ?_)
                      refine CW.skip ?_
                      refine AQ.next ?_
                      refine CW.seq ?_
                      -- region 57
                      refine CW.region ?_
                      refine RW.op1 rfl (runs_move rfl) ?_
                      refine RW.op1 rfl (runs_not rfl) ?_
                      refine RW.done ?_
                      refine AQ.next ?_
                      refine CW.cond rfl (fun hc225 => ?_) (fun hc225 => ?_)
                      · have hcb225 := hc225
                        try simp only [decide_eq_true_eq, decide_eq_false_iff_not] at hc225
                        have hdn : x.S.down = false := by simpa using hcb225
                        refine CW.seq ?_
                        refine CW.seq ?_
                        -- region 58
                        refine CW.region ?_
                        refine RW.op1 rfl (runs_move rfl) ?_
                        refine RW.op1 rfl (Grow.len Try.underlying42 rfl G.gA) ?_
                        refine RW.op1 rfl (runs_move rfl) ?_
                        refine RW.done ?_
                        refine AQ.next ?_
                        refine CW.block ?_
                        -- loop 2
                        refine CW.loop (Nat × Obj × List (Int × Value)) (fun z w => St w0 w I76 ((bS, z.2.1) :: (x.bN, x.oN) :: (LdF ++ (x.La ++ (x.Lx ++ L)))) ∧ MapR kI z.2.1 z.2.2 ∧ FlI I76 x.S n z.1 z.2.2 ∧ z.1 ≤ x.S.pend.length) (fun z => [(1, vl), (2, vk), (7, (.pointer (some ad))), (8, .int .i64 (n : Nat)), (9, .map (some bS)), (11, vz), (10, .map (some x.bN)), (12, x.va), (13, x.vx), (14, .int .i64 x.S.left), (15, .bool x.S.down), (16, .int .i64 (3 * (k : Nat))), (226, x.va), (227, .int .i64 (x.S.pend.length : Nat)), (228, .int .i64 (z.1 : Nat))]) (fun z => x.S.pend.length - z.1) ⟨(0, x.oS, x.rS), ⟨hst, G.mS, FlI.start G, Nat.zero_le _⟩, ⟨rfl, rfl, rfl, rfl, rfl, rfl, rfl, rfl, rfl, rfl, rfl, rfl, rfl, rfl, rfl, trivial⟩⟩ ?_
                        rintro ⟨j, oF, rF⟩ w ⟨hstn, hmS, hfl, hj0⟩
                        dsimp only at hstn hmS hfl hj0 ⊢
                        clear hst
                        have hst := hstn
                        clear hstn
                        refine CW.seq ?_
                        -- region 59
                        refine CW.region ?_
                        refine RW.op1 rfl (runs_lss rfl rfl) ?_
                        refine RW.done ?_
                        refine AQ.next ?_
                        refine CW.seq ?_
                        refine CW.cond rfl (fun hc229 => ?_) (fun hc229 => ?_)
                        · have hcb229 := hc229
                          try simp only [decide_eq_true_eq, decide_eq_false_iff_not] at hc229
                          have hj : j < x.S.pend.length := by omega
                          obtain ⟨p, hp9⟩ : ∃ p, x.S.pend[j]? = some p := ⟨_, List.getElem?_eq_getElem hj⟩
                          obtain ⟨hvl, hvr⟩ := RdAll.get G.rX
                          obtain ⟨u9, hu9⟩ : ∃ u, x.vs[j]? = some u := ⟨_, List.getElem?_eq_getElem (by dsimp only at hvl; rw [hvl, List.length_map]; exact hj)⟩
                          have hur := hvr j u9 p.2 hu9 (by dsimp only; rw [List.getElem?_map, hp9]; rfl)
                          refine CW.skip ?_
                          refine AQ.next ?_
                          refine CW.seq ?_
                          refine CW.block ?_
                          refine CW.seq ?_
                          -- region 60
                          refine CW.region ?_
                          refine RW.op1 rfl (runs_move rfl) ?_
                          refine RW.op1 rfl (Grow.indexAddr Try.underlying42 ti3 G.gA rfl rfl (by dsimp only; omega)) ?_
                          refine RW.op1 rfl (Grow.load1 sc3 G.gA rfl hst (fun q hq => by simp [hq]) (u := .int .i64 p.1) (by dsimp only; rw [Int.toNat_natCast, Nat.mul_one, List.getElem?_map, hp9]; rfl)) ?_
                          refine RW.op1 rfl (runs_assign rfl) ?_
                          refine RW.op1 rfl (runs_assign rfl) ?_
                          refine RW.done ?_
                          refine AQ.next ?_
                          -- region 61
                          refine CW.region ?_
                          refine RW.op1 rfl (runs_move rfl) ?_
                          refine RW.op1 rfl (runs_move rfl) ?_
                          refine RW.op1 rfl (runs_move rfl) ?_
                          refine RW.op1 rfl (runs_move rfl) ?_
                          refine RW.op1 rfl (Grow.indexAddr Try.underlying45 ti26 G.gX rfl rfl (by dsimp only; omega)) ?_
                          refine RW.op1 rfl (Grow.load1 sc26 G.gX rfl hst (fun q hq => by simp [hq]) (u := u9) (by dsimp only; rw [Int.toNat_natCast, Nat.mul_one]; exact hu9)) ?_
                          refine RW.opE0 (runs_mapUpdate (keyI Try.underlying3) Try.underlying44 (key := p.1) rfl rfl rfl hst (i := 0) rfl hmS) ?_
                          rintro w ⟨oF2, hstn, hmS2⟩
                          clear hst
                          have hst := hstn
                          clear hstn
                          simp only [List.set_cons_zero] at hst
                          refine RW.done ?_
                          refine AQ.block_normal ?_
                          refine AQ.next ?_
                          -- region 62
                          refine CW.region ?_
                          refine RW.op1 rfl (runs_add rfl rfl (by omega)) ?_
                          refine RW.op1 rfl (runs_move rfl) ?_
                          refine RW.done ?_
                          exact AQ.again (x := (j, oF, rF)) (j + 1, _, _) ⟨hst, hmS2, FlI.next G hfl hp9 hur, by omega⟩ ⟨rfl, rfl, rfl, rfl, rfl, rfl, rfl, rfl, rfl, rfl, rfl, rfl, rfl, rfl, rfl, trivial⟩ (by dsimp only; omega)
                        · have hcb229 := hc229
                          try simp only [decide_eq_true_eq, decide_eq_false_iff_not] at hc229
                          skip
                          refine CW.exit ?_
                          refine AQ.past_exit ?_
                          refine AQ.past_exit ?_
                          refine AQ.block_hit ?_
                          refine AQ.next ?_
                          -- region 63
                          refine CW.region ?_
                          refine RW.op1 rfl (runs_assign rfl) ?_
                          refine RW.op1 rfl (runs_assign rfl) ?_
                          have G3 := PGood.flushed G hdn hdF (j := j) (by dsimp only; omega) hmS hfl
                          have hfin := plays_fin (⟨(flushR x.S).1, I76, LdF, x.bN, oF, x.oN, rF, x.rN, .slice none 0 0, .slice none 0 0, [], [], []⟩ : PS) (hst.sub (own_two _ _ _ _ _ _)) G3 hle (show (flushR x.S).1.pend.length ≤ k + 1 by unfold flushR; rw [if_neg (by rw [hdn]; decide)]; exact Nat.zero_le _)
                          have h14 : x.S.left = (flushR x.S).1.left := by unfold flushR; split <;> rfl
                          have h15 : x.S.down = (flushR x.S).1.down := by unfold flushR; split <;> rfl
                          refine RW.done ?_
                          exact AQ.meet _ hfin ⟨rfl, rfl, rfl, rfl, rfl, rfl, rfl, rfl, rfl, (by first | rfl | exact congrArg (fun z => some (Value.int .i64 z)) h14), (by first | rfl | exact congrArg (fun z => some (Value.bool z)) h15), rfl, trivial⟩
                      · have hcb225 := hc225
                        try simp only [decide_eq_true_eq, decide_eq_false_iff_not] at hc225
                        have hdn : x.S.down = true := by simpa using hcb225
                        have hfe : (flushR x.S).1 = x.S := by unfold flushR; rw [if_pos hdn]
                        have G3 := G.same hdF (by rw [hfe]) (by rw [hfe])
                        have hfin := plays_fin ({ ({ x with J := I76 } : PS) with S := (flushR x.S).1, Ld := LdF } : PS) (hst) G3 hle (show (flushR x.S).1.pend.length ≤ k + 1 by rw [hfe]; omega)
                        have h14 : x.S.left = (flushR x.S).1.left := by rw [hfe]
                        have h15 : x.S.down = (flushR x.S).1.down := by rw [hfe]
                        refine CW.skip ?_
                        exact AQ.meet _ hfin ⟨rfl, rfl, rfl, rfl, rfl, rfl, rfl, rfl, rfl, (by first | rfl | exact congrArg (fun z => some (Value.int .i64 z)) h14), (by first | rfl | exact congrArg (fun z => some (Value.bool z)) h15), rfl, trivial⟩
                  · have hcb207 := hc207
                    try simp only [decide_eq_true_eq, decide_eq_false_iff_not] at hc207
                    refine CW.seq ?_
                    -- region 64
                    refine CW.region ?_
                    refine RW.op1 rfl (runs_move rfl) ?_
                    refine RW.op1 rfl (runs_eqI rfl rfl) ?_
                    refine RW.op1 rfl (runs_assign rfl) ?_
                    refine RW.done ?_
                    refine AQ.next ?_
                    refine CW.cond rfl (fun hc240 => ?_) (fun hc240 => ?_)
                    · have hcb240 := hc240
                      try simp only [decide_eq_true_eq, decide_eq_false_iff_not] at hc240
                      refine CW.seq ?_
                      -- region 65
                      refine CW.region ?_
                      refine RW.op1 rfl (runs_move rfl) ?_
                      refine RW.op1 rfl (runs_move rfl) ?_
                      refine RW.op1 rfl (runs_add rfl rfl (by omega)) ?_
                      refine RW.op1 rfl (RdL.indexAddr Try.underlying42 ti3 (by decide) rfl rfl G.hl (by omega)) ?_
                      refine RW.op1 rfl (runs_load1 sc3 rfl (hst.cell_imm (RdI.at G.hl (by omega) (by omega)))) ?_
                      refine RW.call rfl call8 rfl rfl (within_spec hst (v := iat ls (3 * (k : Int) + 1)) (n := 8) (iat_ok2 hls (by omega) (by omega)) (by unfold i64ok; omega)) ?_
                      rintro e w ⟨rfl, hstn⟩
                      clear hst
                      have hst := hstn
                      clear hstn
                      have hw248 := within_range (iat ls (3 * (k : Int) + 1)) (8)
                      generalize hx248 : within (iat ls (3 * (k : Int) + 1)) (8) = x248 at *
                      refine ⟨_, rfl, ?_⟩
                      refine RW.op1 rfl (runs_sub rfl rfl (by omega)) ?_
                      refine RW.op1 rfl (runs_max rfl rfl) ?_
                      obtain ⟨nl, hnl, hnl1⟩ : ∃ nl : Int, (if (-1 : Int) > x248 - 2 then (-1 : Int) else x248 - 2) = nl ∧ (-1 ≤ nl ∧ nl ≤ 100) := ⟨_, rfl, by split <;> omega⟩
                      rw [hnl]
                      refine RW.op1 rfl (runs_assign rfl) ?_
                      refine RW.done ?_
                      refine AQ.next ?_
                      -- region 66
                      refine CW.region ?_
                      refine RW.op1 rfl (runs_move rfl) ?_
                      refine RW.op1 rfl (runs_move rfl) ?_
                      refine RW.call rfl call13 rfl rfl (limit_spec G.hd (hst.perm (perm_mm _ _ _ _)) nl (by unfold i64ok; omega)) ?_
                      rintro e w ⟨rfl, LdL, hstn, hdL⟩
                      clear hst
                      have hst := hstn
                      clear hstn
                      replace hst := hst.perm (perm_mm _ _ _ _).symm
                      refine ⟨_, rfl, ?_⟩
                      have G3 := G.same hdL rfl rfl
                      have h14 : nl = (if nl > -1 then nl else -1) := by split <;> omega
                      have hfin := plays_fin ({ ({ x with J := I76 } : PS) with S := { x.S with left := if nl > -1 then nl else -1 }, Ld := LdL } : PS) (hst) G3 hle (show x.S.pend.length ≤ k + 1 by omega)
                      refine RW.done ?_
                      exact AQ.meet _ hfin ⟨rfl, rfl, rfl, rfl, rfl, rfl, rfl, rfl, rfl, (by first | rfl | exact congrArg (fun z => some (Value.int .i64 z)) h14), (by first | rfl | exact congrArg (fun z => some (Value.bool z)) h15), rfl, trivial⟩
                    · have hcb240 := hc240
                      try simp only [decide_eq_true_eq, decide_eq_false_iff_not] at hc240
                      refine CW.seq ?_
                      -- region 67
                      refine CW.region ?_
                      refine RW.op1 rfl (runs_move rfl) ?_
                      refine RW.op1 rfl (runs_eqI rfl rfl) ?_
                      refine RW.op1 rfl (runs_assign rfl) ?_
                      refine RW.done ?_
                      refine AQ.next ?_
                      refine CW.cond rfl (fun hc254 => ?_) (fun hc254 => ?_)
                      · have hcb254 := hc254
                        try simp only [decide_eq_true_eq, decide_eq_false_iff_not] at hc254
                        refine CW.seq ?_
                        -- region 68
                        refine CW.region ?_
                        refine RW.op1 rfl (runs_move rfl) ?_
                        refine RW.op1 rfl (runs_move rfl) ?_
                        refine RW.op1 rfl (runs_add rfl rfl (by omega)) ?_
                        refine RW.op1 rfl (RdL.indexAddr Try.underlying42 ti3 (by decide) rfl rfl G.hl (by omega)) ?_
                        refine RW.op1 rfl (runs_load1 sc3 rfl (hst.cell_imm (RdI.at G.hl (by omega) (by omega)))) ?_
                        refine RW.op1 rfl (runs_move rfl) ?_
                        refine RW.op1 rfl (RdL.len Try.underlying42 rfl G.hk) ?_
                        refine RW.op1 rfl (runs_addW rfl rfl) ?_
                        obtain ⟨y264, hy264, hy2, hy3⟩ : ∃ y, IntKind.i64.wrap ((ks.length : Int) + 1) = y ∧ i64ok y ∧ y ≤ (ks.length : Int) + 1 := ⟨_, rfl, by rw [IntKind.wrap_i64]; unfold i64ok; omega, by rw [IntKind.wrap_i64]; omega⟩
                        rw [hy264]
                        refine RW.call rfl call8 rfl rfl (within_spec hst (v := iat ls (3 * (k : Int) + 1)) (n := y264) (iat_ok2 hls (by omega) (by omega)) hy2) ?_
                        rintro e w ⟨rfl, hstn⟩
                        clear hst
                        have hst := hstn
                        clear hstn
                        have hw265 := within_range (iat ls (3 * (k : Int) + 1)) y264
                        have hw0 : y264 < 1 → within (iat ls (3 * (k : Int) + 1)) y264 = 0 := fun h => by unfold within; rw [if_pos h]
                        generalize hx265 : within (iat ls (3 * (k : Int) + 1)) y264 = x265 at *
                        refine ⟨_, rfl, ?_⟩
                        refine RW.op1 rfl (runs_assign rfl) ?_
                        refine RW.done ?_
                        refine AQ.next ?_
                        refine CW.seq ?_
                        -- region 69
                        refine CW.region ?_
                        refine RW.op1 rfl (runs_move rfl) ?_
                        refine RW.op1 rfl (runs_move rfl) ?_
                        have hk2 := RdI.drop G.hk (lo := x265.toNat) (by omega)
                        refine RW.op1 rfl (RdL.slice_l Try.underlying42 ti3 rfl rfl G.hk (by omega)) ?_
                        obtain ⟨k2, hk2e⟩ : ∃ k2, ks.drop x265.toNat = k2 := ⟨_, rfl⟩
                        rw [hk2e] at hk2
                        obtain ⟨v2, hv2⟩ : ∃ v, v = Go.Proofs.YtdhgbcbnkddfdaaX.partV vk x265.toNat ks.length 1 := ⟨_, rfl⟩
                        rw [← hv2] at hk2 ⊢
                        refine RW.op1 rfl (runs_assign rfl) ?_
                        refine RW.done ?_
                        refine AQ.next ?_
                        refine CW.seq ?_
                        -- region 70
                        refine CW.region ?_
                        refine RW.op1 rfl (runs_move rfl) ?_
                        refine RW.op1 rfl (runs_move rfl) ?_
                        refine RW.call rfl call21 rfl rfl (crash_spec G.hd (hst.perm (perm_mm _ _ _ _)) hk2) ?_
                        rintro e w ⟨LdC, rfl, hstn, hdC⟩
                        clear hst
                        have hst := hstn
                        clear hstn
                        replace hst := hst.perm (perm_mm _ _ _ _).symm
                        refine ⟨_, rfl, ?_⟩
                        refine RW.done ?_
                        refine AQ.next ?_
                        refine CW.seq ?_
                        refine CW.seq ?_
                        -- region 71
                        refine CW.region ?_
                        refine RW.op1 rfl (runs_move rfl) ?_
                        refine RW.op1 rfl (Grow.len Try.underlying42 rfl G.gA) ?_
                        refine RW.op1 rfl (runs_move rfl) ?_
                        refine RW.done ?_
                        refine AQ.next ?_
                        refine CW.block ?_
                        -- loop 3
                        have hok3 := G.ok
                        have hn3 := G.hn
                        dsimp only at hok3 hn3
                        refine CW.loop (Nat × Obj × List (Int × Value) × Imm) (fun z w => St w0 w z.2.2.2 ((bS, z.2.1) :: (x.bN, x.oN) :: (LdC ++ (x.La ++ (x.Lx ++ L)))) ∧ I76.le z.2.2.2 ∧ MapR kI z.2.1 z.2.2.1 ∧ CrI z.2.2.2 x.S k2 n z.1 z.2.2.1 ∧ z.1 ≤ x.S.pend.length) (fun z => [(1, vl), (2, vk), (7, (.pointer (some ad))), (8, .int .i64 (n : Nat)), (9, .map (some bS)), (11, vz), (10, .map (some x.bN)), (13, x.vx), (16, .int .i64 (3 * (k : Nat))), (30, v2), (272, x.va), (273, .int .i64 (x.S.pend.length : Nat)), (274, .int .i64 (z.1 : Nat))]) (fun z => x.S.pend.length - z.1) ⟨(0, x.oS, x.rS, I76), ⟨hst, Imm.le.refl _, G.mS, CrI.start G, Nat.zero_le _⟩, ⟨rfl, rfl, rfl, rfl, rfl, rfl, rfl, rfl, rfl, rfl, rfl, rfl, rfl, trivial⟩⟩ ?_
                        clear hst
                        rintro ⟨j, oC, rC, J3⟩ w ⟨hstn, hJ3, hmS, hcr, hj0⟩
                        dsimp only at hstn hJ3 hmS hcr hj0 ⊢
                        have hst := hstn
                        clear hstn
                        have hle0 := hle
                        replace hle := hle.trans hJ3
                        replace G := G.mono hJ3
                        replace hk2 := RdL.mono hJ3 hk2
                        refine CW.seq ?_
                        -- region 72
                        refine CW.region ?_
                        refine RW.op1 rfl (runs_lss rfl rfl) ?_
                        refine RW.done ?_
                        refine AQ.next ?_
                        refine CW.seq ?_
                        refine CW.cond rfl (fun hc275 => ?_) (fun hc275 => ?_)
                        · have hcb275 := hc275
                          try simp only [decide_eq_true_eq, decide_eq_false_iff_not] at hc275
                          have hj : j < x.S.pend.length := by omega
                          obtain ⟨p, hp9⟩ : ∃ p, x.S.pend[j]? = some p := ⟨_, List.getElem?_eq_getElem hj⟩
                          obtain ⟨hp32, hp0, hp1⟩ := hok3.2.2.1 p (List.mem_of_getElem? hp9)
                          obtain ⟨hvl, hvr⟩ := RdAll.get G.rX
                          obtain ⟨u9, hu9⟩ : ∃ u, x.vs[j]? = some u := ⟨_, List.getElem?_eq_getElem (by dsimp only at hvl; rw [hvl, List.length_map]; exact hj)⟩
                          have hur := hvr j u9 p.2 hu9 (by dsimp only; rw [List.getElem?_map, hp9]; rfl)
                          have hkn := keepN_le k2 j
                          refine CW.skip ?_
                          refine AQ.next ?_
                          refine CW.seq ?_
                          refine CW.block ?_
                          refine CW.seq ?_
                          -- region 73
                          refine CW.region ?_
                          refine RW.op1 rfl (runs_move rfl) ?_
                          refine RW.op1 rfl (Grow.indexAddr Try.underlying42 ti3 G.gA rfl rfl (by dsimp only; omega)) ?_
                          refine RW.op1 rfl (Grow.load1 sc3 G.gA rfl hst (fun q hq => by simp [hq]) (u := .int .i64 p.1) (by dsimp only; rw [Int.toNat_natCast, Nat.mul_one, List.getElem?_map, hp9]; rfl)) ?_
                          refine RW.op1 rfl (runs_assign rfl) ?_
                          refine RW.op1 rfl (runs_assign rfl) ?_
                          refine RW.done ?_
                          refine AQ.next ?_
                          refine CW.seq ?_
                          -- region 74
                          refine CW.region ?_
                          refine RW.op1 rfl (runs_assign rfl) ?_
                          refine RW.done ?_
                          refine AQ.next ?_
                          refine CW.seq ?_
                          refine CW.seq ?_
                          -- region 75
                          refine CW.cut Unit (fun _ w => St w0 w J3 ((bS, oC) :: (x.bN, x.oN) :: (LdC ++ (x.La ++ (x.Lx ++ L))))) (fun _ => [(1, vl), (2, vk), (7, (.pointer (some ad))), (8, .int .i64 (n : Nat)), (9, .map (some bS)), (11, vz), (10, .map (some x.bN)), (13, x.vx), (16, .int .i64 (3 * (k : Nat))), (30, v2), (272, x.va), (273, .int .i64 (x.S.pend.length : Nat)), (274, .int .i64 (j : Nat)), (31, .int .i64 (j : Nat)), (32, .int .i64 p.1), (33, .int .i64 0), (296, .bool (decide (keepN k2 j ≠ 0)))]) ?_ ?_
                          · -- region 75
                            refine CW.region ?_
                            refine RW.op1 rfl (runs_move rfl) ?_
                            refine RW.op1 rfl (runs_move rfl) ?_
                            refine RW.op1 rfl (RdL.len Try.underlying42 rfl hk2) ?_
                            refine RW.op1 rfl (runs_lss rfl rfl) ?_
                            refine RW.op1 rfl (runs_move rfl) ?_
                            refine RW.split (t := 283) rfl (fun hb283 => ?_) (fun hb283 => ?_)
                            · have hb283p := hb283
                              try simp only [decide_eq_true_eq, decide_eq_false_iff_not] at hb283p
                              refine RW.on_guard rfl rfl rfl rfl hb283 ?_
                              refine RW.op1 rfl (runs_move rfl) ?_
                              refine RW.on_guard rfl rfl rfl rfl hb283 ?_
                              refine RW.op1 rfl (runs_move rfl) ?_
                              refine RW.on_guard rfl rfl rfl rfl hb283 ?_
                              refine RW.op1 rfl (RdL.indexAddr Try.underlying42 ti3 (by decide) rfl rfl hk2 (by omega)) ?_
                              refine RW.on_guard rfl rfl rfl rfl hb283 ?_
                              refine RW.op1 rfl (runs_load1 sc3 rfl (hst.cell_imm (RdI.at hk2 (by omega) (by omega)))) ?_
                              rw [iat_getD]
                              refine RW.on_guard rfl rfl rfl rfl hb283 ?_
                              refine RW.op1 rfl (runs_eqI rfl rfl) ?_
                              refine RW.on_guard rfl rfl rfl rfl hb283 ?_
                              refine RW.op1 rfl (runs_move rfl) ?_
                              refine RW.split (t := 289) rfl (fun hb289 => ?_) (fun hb289 => ?_)
                              · have hb289p := hb289
                                try simp only [decide_eq_true_eq, decide_eq_false_iff_not] at hb289p
                                refine RW.off_guard rfl rfl rfl rfl hb289 ?_
                                refine RW.off_guard rfl rfl rfl rfl hb289 ?_
                                refine RW.off_guard rfl rfl rfl rfl hb289 ?_
                                refine RW.off_guard rfl rfl rfl rfl hb289 ?_
                                refine RW.off_guard rfl rfl rfl rfl hb289 ?_
                                refine RW.on_guard rfl rfl rfl rfl hb283 ?_
                                refine RW.op1 rfl (runs_pick_true rfl hb289 rfl) ?_
                                refine RW.op1 rfl (runs_pick_true rfl hb283 rfl) ?_
                                refine RW.done ?_
                                exact AQ.meet () hst ⟨rfl, rfl, rfl, rfl, rfl, rfl, rfl, rfl, rfl, rfl, rfl, rfl, rfl, rfl, rfl, rfl, keepb (by simp only [decide_eq_true_eq, true_iff, Bool.false_eq_true, false_iff]; omega), trivial⟩
                              · have hb289p := hb289
                                try simp only [decide_eq_true_eq, decide_eq_false_iff_not] at hb289p
                                refine RW.on_guard rfl rfl rfl rfl hb289 ?_
                                refine RW.op1 rfl (runs_move rfl) ?_
                                refine RW.on_guard rfl rfl rfl rfl hb289 ?_
                                refine RW.op1 rfl (runs_move rfl) ?_
                                refine RW.on_guard rfl rfl rfl rfl hb289 ?_
                                refine RW.op1 rfl (RdL.indexAddr Try.underlying42 ti3 (by decide) rfl rfl hk2 (by omega)) ?_
                                refine RW.on_guard rfl rfl rfl rfl hb289 ?_
                                refine RW.op1 rfl (runs_load1 sc3 rfl (hst.cell_imm (RdI.at hk2 (by omega) (by omega)))) ?_
                                rw [iat_getD]
                                refine RW.on_guard rfl rfl rfl rfl hb289 ?_
                                refine RW.op1 rfl (runs_eqI rfl rfl) ?_
                                refine RW.on_guard rfl rfl rfl rfl hb283 ?_
                                refine RW.op1 rfl (runs_pick_false rfl hb289 rfl) ?_
                                refine RW.op1 rfl (runs_pick_true rfl hb283 rfl) ?_
                                refine RW.done ?_
                                exact AQ.meet () hst ⟨rfl, rfl, rfl, rfl, rfl, rfl, rfl, rfl, rfl, rfl, rfl, rfl, rfl, rfl, rfl, rfl, keepb (by simp only [decide_eq_true_eq, true_iff, Bool.false_eq_true, false_iff]; omega), trivial⟩
                            · have hb283p := hb283
                              try simp only [decide_eq_true_eq, decide_eq_false_iff_not] at hb283p
                              refine RW.off_guard rfl rfl rfl rfl hb283 ?_
                              refine RW.off_guard rfl rfl rfl rfl hb283 ?_
                              refine RW.off_guard rfl rfl rfl rfl hb283 ?_
                              refine RW.off_guard rfl rfl rfl rfl hb283 ?_
                              refine RW.off_guard rfl rfl rfl rfl hb283 ?_
                              refine RW.off_guard rfl rfl rfl rfl hb283 ?_
                              refine RW.off_undef rfl rfl rfl rfl ?_
                              refine RW.off_undef rfl rfl rfl rfl ?_
                              refine RW.off_undef rfl rfl rfl rfl ?_
                              refine RW.off_undef rfl rfl rfl rfl ?_
                              refine RW.off_undef rfl rfl rfl rfl ?_
                              refine RW.off_guard rfl rfl rfl rfl hb283 ?_
                              refine RW.op1 rfl (runs_pick_false rfl hb283 rfl) ?_
                              refine RW.done ?_
                              exact AQ.meet () hst ⟨rfl, rfl, rfl, rfl, rfl, rfl, rfl, rfl, rfl, rfl, rfl, rfl, rfl, rfl, rfl, rfl, keepb (by simp only [decide_eq_true_eq, true_iff, Bool.false_eq_true, false_iff]; omega), trivial⟩
                          · rintro _ w hstn
                            clear hst
                            have hst := hstn
                            clear hstn
                            refine AQ.next ?_
                            refine CW.cut Unit (fun _ w => St w0 w J3 ((bS, oC) :: (x.bN, x.oN) :: (LdC ++ (x.La ++ (x.Lx ++ L))))) (fun _ => [(1, vl), (2, vk), (7, (.pointer (some ad))), (8, .int .i64 (n : Nat)), (9, .map (some bS)), (11, vz), (10, .map (some x.bN)), (13, x.vx), (16, .int .i64 (3 * (k : Nat))), (30, v2), (272, x.va), (273, .int .i64 (x.S.pend.length : Nat)), (274, .int .i64 (j : Nat)), (31, .int .i64 (j : Nat)), (32, .int .i64 p.1), (33, .int .i64 ((keepN k2 j : Nat) : Int))]) ?_ ?_
                            · refine CW.cond rfl (fun hc296 => ?_) (fun hc296 => ?_)
                              · have hcb296 := hc296
                                try simp only [decide_eq_true_eq, decide_eq_false_iff_not] at hc296
                                -- region 76
                                refine CW.region ?_
                                have hjk : j < k2.length := by
                                  have h0 := of_decide_eq_true hcb296
                                  unfold keepN at h0
                                  by_cases h1 : j < k2.length
                                  · exact h1
                                  · rw [if_neg h1] at h0; exact absurd rfl h0
                                refine RW.op1 rfl (runs_move rfl) ?_
                                refine RW.op1 rfl (runs_move rfl) ?_
                                refine RW.op1 rfl (RdL.indexAddr Try.underlying42 ti3 (by decide) rfl rfl hk2 (by omega)) ?_
                                refine RW.op1 rfl (runs_load1 sc3 rfl (hst.cell_imm (RdI.at hk2 (by omega) (by omega)))) ?_
                                rw [iat_getD]
                                have h16 := keep16 hcb296
                                refine RW.op1 rfl (runs_mul rfl rfl (by omega)) ?_
                                rw [h16]
                                refine RW.op1 rfl (runs_assign rfl) ?_
                                refine RW.done ?_
                                first
                                  | exact AQ.meet () hst ⟨rfl, rfl, rfl, rfl, rfl, rfl, rfl, rfl, rfl, rfl, rfl, rfl, rfl, rfl, rfl, rfl, trivial⟩
                                  | exact AQ.meet () hst ⟨rfl, rfl, rfl, rfl, rfl, rfl, rfl, rfl, rfl, rfl, rfl, rfl, rfl, rfl, rfl, congrArg (fun z => some (Value.int .i64 z)) (keep0 hcb296), trivial⟩
                              · have hcb296 := hc296
                                try simp only [decide_eq_true_eq, decide_eq_false_iff_not] at hc296
                                refine CW.skip ?_
                                first
                                  | exact AQ.meet () hst ⟨rfl, rfl, rfl, rfl, rfl, rfl, rfl, rfl, rfl, rfl, rfl, rfl, rfl, rfl, rfl, rfl, trivial⟩
                                  | exact AQ.meet () hst ⟨rfl, rfl, rfl, rfl, rfl, rfl, rfl, rfl, rfl, rfl, rfl, rfl, rfl, rfl, rfl, congrArg (fun z => some (Value.int .i64 z)) (keep0 hcb296), trivial⟩
                            · rintro _ w hstn
                              clear hst
                              have hst := hstn
                              clear hstn
                              refine AQ.next ?_
                              refine CW.seq ?_
                              -- region 77
                              refine CW.region ?_
                              refine RW.op1 rfl (runs_move rfl) ?_
                              refine RW.op1 rfl (runs_move rfl) ?_
                              obtain ⟨A1, m1, c1, hlk, hA0, hA1⟩ := look hcr.2.1 p.1
                              refine RW.op1 rfl (runs_lookup (keyI Try.underlying3) Try.underlying44 ti26 (key := p.1) rfl rfl hst (i := 0) rfl hmS) ?_
                              rw [hlk]
                              refine RW.op1 rfl (runs_assign rfl) ?_
                              refine RW.done ?_
                              refine AQ.next ?_
                              refine CW.seq ?_
                              refine CW.seq ?_
                              -- region 78
                              refine CW.region ?_
                              refine RW.op1 rfl (runs_move rfl) ?_
                              refine RW.op1 rfl (runs_eq_nilslice Try.underlying26 rfl) ?_
                              refine RW.done ?_
                              refine AQ.next ?_
                              refine CW.cut Value (fun y w => St w0 w J3 ((bS, oC) :: (x.bN, x.oN) :: (LdC ++ (x.La ++ (x.Lx ++ L)))) ∧ RdB J3 y ((crashTo x.S k2 j).getD p.1.toNat [])) (fun y => [(1, vl), (2, vk), (7, (.pointer (some ad))), (8, .int .i64 (n : Nat)), (9, .map (some bS)), (11, vz), (10, .map (some x.bN)), (13, x.vx), (16, .int .i64 (3 * (k : Nat))), (30, v2), (272, x.va), (273, .int .i64 (x.S.pend.length : Nat)), (274, .int .i64 (j : Nat)), (31, .int .i64 (j : Nat)), (32, .int .i64 p.1), (33, .int .i64 ((keepN k2 j : Nat) : Int)), (34, y)]) ?_ ?_
                              · refine CW.cond rfl (fun hc306 => ?_) (fun hc306 => ?_)
                                · have hcb306 := hc306
                                  try simp only [decide_eq_true_eq, decide_eq_false_iff_not] at hc306
                                  -- region 79
                                  refine CW.region ?_
                                  refine RW.op1 rfl (runs_move rfl) ?_
                                  refine RW.op1 rfl (runs_assign rfl) ?_
                                  refine RW.done ?_
                                  first
                                    | exact AQ.meet vz ⟨hst, by rw [CrI.at0 hcr hp0 (by omega) (hA0 hcb306)]; exact G.hz⟩ ⟨rfl, rfl, rfl, rfl, rfl, rfl, rfl, rfl, rfl, rfl, rfl, rfl, rfl, rfl, rfl, rfl, rfl, trivial⟩
                                    | exact AQ.meet _ ⟨hst, CrI.at hcr hp0 (by omega) hlk hA1 hcb306⟩ ⟨rfl, rfl, rfl, rfl, rfl, rfl, rfl, rfl, rfl, rfl, rfl, rfl, rfl, rfl, rfl, rfl, rfl, trivial⟩
                                · have hcb306 := hc306
                                  try simp only [decide_eq_true_eq, decide_eq_false_iff_not] at hc306
                                  refine CW.skip ?_
                                  first
                                    | exact AQ.meet vz ⟨hst, by rw [CrI.at0 hcr hp0 (by omega) (hA0 hcb306)]; exact G.hz⟩ ⟨rfl, rfl, rfl, rfl, rfl, rfl, rfl, rfl, rfl, rfl, rfl, rfl, rfl, rfl, rfl, rfl, rfl, trivial⟩
                                    | exact AQ.meet _ ⟨hst, CrI.at hcr hp0 (by omega) hlk hA1 hcb306⟩ ⟨rfl, rfl, rfl, rfl, rfl, rfl, rfl, rfl, rfl, rfl, rfl, rfl, rfl, rfl, rfl, rfl, rfl, trivial⟩
                              · rintro vy w ⟨hstn, hy⟩
                                clear hst
                                have hst := hstn
                                clear hstn
                                have hyl : ((crashTo x.S k2 j).getD p.1.toNat []).length = 32 := by
                                  obtain ⟨hfl, hfs⟩ := crashTo_ok hok3 k2 j
                                  have hi : p.1.toNat < (crashTo x.S k2 j).length := by rw [hfl]; omega
                                  rw [List.getD_eq_getElem?_getD, List.getElem?_eq_getElem hi]
                                  exact hfs _ (List.getElem_mem _)
                                refine AQ.next ?_
                                -- region 80
                                refine CW.draw (FSt w0 J3 ((x.bN, x.oN) :: (LdC ++ (x.La ++ (x.Lx ++ L))))) (.q 0 (.q 1 (.q 2 (.q 3 (.q 4 (.q 5 (.q 6 (.q 7 (.q 9 (.q 10 (.q 11 (.l 8 (.l 12 (.l 13 .nil)))))))))))))) follows (by kernel_rfl) ⟨_, Imm.le.refl _, hst.draw.sub (List.sublist_cons_self _ _)⟩ ?_
                                replace hst := hst.draw
                                refine DRW.q rfl rfl (fun w' hF => runs_move rfl) ?_
                                refine DRW.q rfl rfl (fun w' hF => runs_move rfl) ?_
                                refine DRW.q rfl rfl (fun w' hF => runs_move rfl) ?_
                                refine DRW.q rfl rfl (fun w' hF => runs_move rfl) ?_
                                refine DRW.q rfl rfl (fun w' hF => Grow.indexAddr Try.underlying45 ti26 G.gX rfl rfl (by dsimp only; omega)) ?_
                                refine DRW.q rfl rfl ((fun w' hF => match hF with | ⟨_, _, h2⟩ => Grow.load1 sc26 G.gX rfl h2 (fun q hq => by simp [hq]) (u := u9) (by dsimp only; rw [Int.toNat_natCast, Nat.mul_one]; exact hu9))) ?_
                                refine DRW.q rfl rfl (fun w' hF => runs_move rfl) ?_
                                have hp315 : RdB J3 (partV u9 0 ((keepN k2 j : Nat) : Int).toNat 1) (p.2.take (keepN k2 j)) := by
                                  have h9 := RdB.part hur (lo := 0) (hi := ((keepN k2 j : Nat) : Int).toNat) (by omega) (by omega)
                                  rw [List.drop_zero, Nat.sub_zero, Int.toNat_natCast] at h9
                                  rw [Int.toNat_natCast]
                                  exact h9
                                refine DRW.q rfl rfl (fun w' hF => RdL.slice_h Try.underlying26 ti5 rfl rfl hur (by omega)) ?_
                                refine DRW.q rfl rfl (fun w' hF => runs_move rfl) ?_
                                refine DRW.q rfl rfl (fun w' hF => runs_move rfl) ?_
                                have hp319 : RdB J3 (partV vy ((keepN k2 j : Nat) : Int).toNat ((crashTo x.S k2 j).getD p.1.toNat []).length 1) (((crashTo x.S k2 j).getD p.1.toNat []).drop (keepN k2 j)) := by
                                  have h9 := RdB.part hy (lo := ((keepN k2 j : Nat) : Int).toNat) (hi := ((crashTo x.S k2 j).getD p.1.toNat []).length) (by omega) (Nat.le_refl _)
                                  rw [List.take_of_length_le (by rw [List.length_drop]; exact Nat.le_refl _), Int.toNat_natCast] at h9
                                  rw [Int.toNat_natCast]
                                  exact h9
                                refine DRW.q rfl rfl (fun w' hF => RdL.slice_l Try.underlying26 ti5 rfl rfl hy (by omega)) ?_
                                refine DRW.opE rfl rfl (runs_appendB (Lv := []) Try.underlying26 ti5 rfl rfl hst (GrowB.nil _) hp315 (by rw [List.length_take]; simp only [List.length_nil]; omega)) ?_
                                rintro u316 w ⟨Lv316, hstn, hg316⟩
                                clear hst
                                have hst := hstn
                                clear hstn
                                refine ⟨FSt.of hst (Imm.le.refl _) (by first | exact (List.sublist_cons_self _ _).trans (List.sublist_append_right _ _) | exact List.Sublist.refl _ | exact List.sublist_cons_self _ _ | exact List.sublist_append_right _ _ | exact (List.sublist_cons_self _ _).trans (List.sublist_cons_self _ _) | exact (List.sublist_append_right _ _).trans (List.sublist_cons_self _ _) | simp), ?_⟩
                                refine DRW.opE rfl rfl (runs_appendB Try.underlying26 ti5 rfl rfl hst hg316 hp319 (by rw [List.nil_append, List.length_take, List.length_drop]; omega)) ?_
                                rintro u24 w ⟨Lv24, hstn, hg24⟩
                                clear hst
                                have hst := hstn
                                clear hstn
                                refine ⟨FSt.of hst (Imm.le.refl _) (by first | exact (List.sublist_cons_self _ _).trans (List.sublist_append_right _ _) | exact List.Sublist.refl _ | exact List.sublist_cons_self _ _ | exact List.sublist_append_right _ _ | exact (List.sublist_cons_self _ _).trans (List.sublist_cons_self _ _) | exact (List.sublist_append_right _ _).trans (List.sublist_cons_self _ _) | simp), ?_⟩
                                obtain ⟨J24, hJ24, hstn, h24⟩ := Grow.freeze hg24 hst
                                clear hst
                                have hst := hstn
                                clear hstn
                                replace hcr := hcr.mono hJ24
                                replace hle := hle.trans hJ24
                                try simp only [List.nil_append] at h24
                                have hJX := hJ24
                                have hN := h24
                                refine DRW.opE0 rfl (runs_mapUpdate (keyI Try.underlying3) Try.underlying44 (key := p.1) rfl rfl rfl hst (i := 0) rfl hmS) ?_
                                rintro w ⟨oC2, hstn, hmS2⟩
                                clear hst
                                have hst := hstn
                                clear hstn
                                refine ⟨FSt.of hst hJ24 (by first | exact (List.sublist_cons_self _ _).trans (List.sublist_append_right _ _) | exact List.Sublist.refl _ | exact List.sublist_cons_self _ _ | exact List.sublist_append_right _ _ | exact (List.sublist_cons_self _ _).trans (List.sublist_cons_self _ _) | exact (List.sublist_append_right _ _).trans (List.sublist_cons_self _ _) | simp), ?_⟩
                                simp only [List.set_cons_zero] at hst
                                refine DRW.done ?_
                                refine AQ.block_normal ?_
                                refine AQ.next ?_
                                -- region 81
                                refine CW.region ?_
                                refine RW.op1 rfl (runs_add rfl rfl (by omega)) ?_
                                refine RW.op1 rfl (runs_move rfl) ?_
                                refine RW.done ?_
                                exact AQ.again (x := (j, oC, rC, J3)) (j + 1, _, _, _) ⟨hst, hJ3.trans hJX, hmS2, CrI.next hok3 hn3 hcr hp9 hN, by omega⟩ ⟨rfl, rfl, rfl, rfl, rfl, rfl, rfl, rfl, rfl, rfl, rfl, rfl, rfl, trivial⟩ (by dsimp only; omega)
                        · have hcb275 := hc275
                          try simp only [decide_eq_true_eq, decide_eq_false_iff_not] at hc275
                          skip
                          refine CW.exit ?_
                          refine AQ.past_exit ?_
                          refine AQ.past_exit ?_
                          refine AQ.block_hit ?_
                          refine AQ.next ?_
                          refine CW.seq ?_
                          -- region 82
                          refine CW.region ?_
                          refine RW.op1 rfl (runs_assign rfl) ?_
                          refine RW.op1 rfl (runs_assign rfl) ?_
                          refine RW.op1 rfl (runs_assign rfl) ?_
                          refine RW.op1 rfl (runs_assign rfl) ?_
                          refine RW.done ?_
                          refine AQ.next ?_
                          refine CW.seq ?_
                          -- region 83
                          refine CW.region ?_
                          refine RW.opE rfl (runs_makeMap hst) ?_
                          rintro _ w ⟨bM, rfl, hstn⟩
                          clear hst
                          have hst := hstn
                          clear hstn
                          refine RW.op1 rfl (runs_assign rfl) ?_
                          refine RW.done ?_
                          refine AQ.next ?_
                          refine CW.seq ?_
                          -- region 84
                          refine CW.region ?_
                          refine RW.op1 rfl (runs_move rfl) ?_
                          refine RW.opE rfl (runs_rangeM Try.underlying44 rfl hst (j := 1) rfl hmS) ?_
                          rintro _ w ⟨bI, oI, rfl, hstn, hit⟩
                          clear hst
                          have hst := hstn
                          clear hstn
                          refine RW.done ?_
                          refine AQ.next ?_
                          refine CW.block ?_
                          -- loop 4
                          have hnS := hcr.1
                          refine CW.loop (Obj × Obj × List (Int × Value) × List (Int × Value)) (fun z w => St w0 w J3 ((bI, z.1) :: (bM, z.2.1) :: (bS, oC) :: (x.bN, x.oN) :: (LdC ++ (x.La ++ (x.Lx ++ L)))) ∧ IterM kI bS z.1 oC z.2.2.1 ∧ MapR kI z.2.1 z.2.2.2 ∧ CpI rC z.2.2.1 z.2.2.2 ∧ (z.2.2.2.map Prod.fst).Nodup) (fun z => [(1, vl), (2, vk), (7, (.pointer (some ad))), (8, .int .i64 (n : Nat)), (9, .map (some bS)), (11, vz), (10, .map (some bM)), (12, .slice none 0 0), (13, .slice none 0 0), (14, .int .i64 (-1)), (15, .bool false), (16, .int .i64 (3 * (k : Nat))), (324, .pointer (some ⟨bI, 0, none⟩))]) (fun z => z.2.2.1.length) ⟨(oI, .map #[] 0, rC, []), ⟨hst, hit, MapR.empty _, CpI.start hnS, List.nodup_nil⟩, ⟨rfl, rfl, rfl, rfl, rfl, rfl, rfl, rfl, rfl, rfl, rfl, rfl, rfl, trivial⟩⟩ ?_
                          clear hst hit
                          rintro ⟨o9, oM, rest, rM⟩ w ⟨hst, hit, hmM, hcp, hnM⟩
                          dsimp only at hst hit hmM hcp hnM ⊢
                          refine CW.seq ?_
                          -- region 85
                          refine CW.region ?_
                          refine RW.opE rfl (runs_nextM kI_inj rfl hst (i := 0) (j := 2) rfl rfl hit) ?_
                          rintro _ w ⟨gx, kv, rfl, hnx⟩
                          clear hst
                          refine RW.op1 rfl (runs_extract rfl (nextM_0 gx kv)) ?_
                          refine RW.done ?_
                          refine AQ.next ?_
                          refine CW.seq ?_
                          refine CW.cond rfl (fun hc326 => ?_) (fun hc326 => ?_)
                          · have hcb326 := hc326
                            try simp only [decide_eq_true_eq, decide_eq_false_iff_not] at hc326
                            rcases hnx with ⟨hg0, _⟩ | ⟨_, k9, u9, rest2, o92, hperm, hst, hit2, hic⟩
                            · exact absurd (hg0.symm.trans hcb326) (by decide)
                            simp only [List.set_cons_zero] at hst
                            refine CW.skip ?_
                            refine AQ.next ?_
                            refine CW.block ?_
                            refine CW.seq ?_
                            -- region 86
                            refine CW.region ?_
                            refine RW.op1 rfl (runs_entryM rfl hst (i := 0) (j := 2) rfl rfl hic) ?_
                            refine RW.op1 rfl (runs_extract rfl rfl) ?_
                            refine RW.op1 rfl (runs_extract rfl rfl) ?_
                            refine RW.op1 rfl (runs_assign rfl) ?_
                            refine RW.op1 rfl (runs_assign rfl) ?_
                            refine RW.done ?_
                            refine AQ.next ?_
                            -- region 87
                            refine CW.region ?_
                            refine RW.op1 rfl (runs_move rfl) ?_
                            refine RW.op1 rfl (runs_move rfl) ?_
                            refine RW.op1 rfl (runs_move rfl) ?_
                            refine RW.opE0 (runs_mapUpdate (keyI Try.underlying3) Try.underlying44 (key := k9) rfl rfl rfl hst (i := 1) rfl hmM) ?_
                            rintro w ⟨oM2, hstn, hmM2⟩
                            clear hst
                            have hst := hstn
                            clear hstn
                            simp only [List.set_cons_succ, List.set_cons_zero] at hst
                            refine RW.done ?_
                            refine AQ.block_normal ?_
                            exact AQ.again (x := (o9, oM, rest, rM)) (o92, _, rest2, _) ⟨hst, hit2, hmM2, hcp.next hperm, mput_nodup hnM _ _⟩ ⟨rfl, rfl, rfl, rfl, rfl, rfl, rfl, rfl, rfl, rfl, rfl, rfl, rfl, trivial⟩ (by have := hperm.length_eq; simp only [List.length_cons] at this; dsimp only; omega)
                          · have hcb326 := hc326
                            try simp only [decide_eq_true_eq, decide_eq_false_iff_not] at hc326
                            obtain ⟨hr0, hst⟩ : rest = [] ∧ St w0 w J3 ((bI, o9) :: (bM, oM) :: (bS, oC) :: (x.bN, x.oN) :: (LdC ++ (x.La ++ (x.Lx ++ L)))) := by
                              rcases hnx with ⟨_, h3, h4⟩ | ⟨hg0, _⟩
                              · exact ⟨h3, h4⟩
                              · exact absurd (hg0.symm.trans hcb326) (by decide)
                            subst hr0
                            have G3 := PGood.crashed G hok3 hn3 hdC (j := j) (by omega) hmS hmM hcr hnM hcp.done (bN' := bM)
                            have hst9 := (hst.sub (List.sublist_cons_self _ _)).sub ((((List.sublist_cons_self _ _).trans (List.Sublist.refl _)).cons_cons _).cons_cons _)
                            have hfin := plays_fin (⟨crashR x.S k2, J3, LdC, bM, oC, oM, rC, rM, .slice none 0 0, .slice none 0 0, [], [], []⟩ : PS) ((hst9.perm (List.Perm.swap _ _ _)).sub (own_two _ _ _ _ _ _)) G3 hle (show (0 : Nat) ≤ k + 1 from Nat.zero_le _)
                            refine CW.exit ?_
                            refine AQ.past_exit ?_
                            refine AQ.past_exit ?_
                            refine AQ.block_hit ?_
                            exact AQ.meet _ hfin ⟨rfl, rfl, rfl, rfl, rfl, rfl, rfl, rfl, rfl, (by first | rfl | exact congrArg (fun z => some (Value.int .i64 z)) h14), (by first | rfl | exact congrArg (fun z => some (Value.bool z)) h15), rfl, trivial⟩
                      · have hcb254 := hc254
                        try simp only [decide_eq_true_eq, decide_eq_false_iff_not] at hc254
                        refine CW.seq ?_
                        -- region 20
                        refine CW.region ?_
                        refine RW.op1 rfl (runs_move rfl) ?_
                        refine RW.call rfl call19 rfl rfl (dclone_spec G.hd (hst.perm (perm_mm _ _ _ _)) (by dsimp only; omega)) ?_
                        rintro e w ⟨d2, Ld2, rfl, ⟨ad2, rfl⟩, hstn, hd2⟩
                        clear hst
                        have hst := hstn
                        clear hstn
                        refine ⟨_, rfl, ?_⟩
                        refine RW.op1 rfl (runs_assign rfl) ?_
                        refine RW.done ?_
                        refine AQ.next ?_
                        refine CW.seq ?_
                        refine CW.seq ?_
                        -- region 21
                        refine CW.cut Unit (fun _ w => St w0 w I76 (Ld2 ++ (x.Ld ++ ((bS, x.oS) :: (x.bN, x.oN) :: (x.La ++ (x.Lx ++ L)))))) (fun _ => [(1, vl), (2, vk), (7, (.pointer (some ad))), (8, .int .i64 (n : Nat)), (9, .map (some bS)), (11, vz), (10, .map (some x.bN)), (12, x.va), (13, x.vx), (14, .int .i64 x.S.left), (15, .bool x.S.down), (16, .int .i64 (3 * (k : Nat))), (37, .pointer (some ad2)), (120, .bool false)]) ?_ ?_
                        · -- region 21
                          refine CW.region ?_
                          refine RW.op1 rfl (runs_move rfl) ?_
                          refine RW.op1 rfl (runs_eq_nilptr Try.underlying23 rfl) ?_
                          refine RW.op1 rfl (runs_move rfl) ?_
                          have hk102 := (show (some ad2).isNone = false from rfl)
                          refine RW.on_guard rfl rfl rfl rfl hk102 ?_
                          refine RW.op1 rfl (runs_move rfl) ?_
                          refine RW.on_guard rfl rfl rfl rfl hk102 ?_
                          refine RW.call rfl call10 rfl rfl (len_spec hd2 hst) ?_
                          rintro e w ⟨rfl, hstn⟩
                          clear hst
                          have hst := hstn
                          clear hstn
                          refine ⟨_, rfl, ?_⟩
                          refine RW.on_guard rfl rfl rfl rfl hk102 ?_
                          refine RW.op1 rfl (runs_move rfl) ?_
                          refine RW.on_guard rfl rfl rfl rfl hk102 ?_
                          refine RW.op1 rfl (runs_neI rfl rfl) ?_
                          refine RW.op1 rfl (runs_pick_false rfl hk102 rfl) ?_
                          refine RW.op1 rfl (runs_move rfl) ?_
                          have hk108 := (show decide (((x.S.secs.length : Nat) : Int) ≠ (n : Int)) = false by have := G.hn; dsimp only at this; rw [this]; simp)
                          refine RW.on_guard rfl rfl rfl rfl hk108 ?_
                          refine RW.op1 rfl (runs_move rfl) ?_
                          refine RW.on_guard rfl rfl rfl rfl hk108 ?_
                          refine RW.call rfl call14 rfl rfl (down_spec hd2 hst) ?_
                          rintro e w ⟨rfl, hstn⟩
                          clear hst
                          have hst := hstn
                          clear hstn
                          refine ⟨_, rfl, ?_⟩
                          refine RW.on_guard rfl rfl rfl rfl hk108 ?_
                          refine RW.op1 rfl (runs_move rfl) ?_
                          refine RW.on_guard rfl rfl rfl rfl hk108 ?_
                          refine RW.op1 rfl (runs_neB Try.underlying4 rfl rfl) ?_
                          refine RW.op1 rfl (runs_pick_false rfl hk108 rfl) ?_
                          refine RW.op1 rfl (runs_move rfl) ?_
                          have hk114 := (show (!(x.S.down == x.S.down)) = false by simp)
                          refine RW.on_guard rfl rfl rfl rfl hk114 ?_
                          refine RW.op1 rfl (runs_move rfl) ?_
                          refine RW.on_guard rfl rfl rfl rfl hk114 ?_
                          refine RW.call rfl call20 rfl rfl (pending_spec hd2 hst) ?_
                          rintro e w ⟨rfl, hstn⟩
                          clear hst
                          have hst := hstn
                          clear hstn
                          refine ⟨_, rfl, ?_⟩
                          refine RW.on_guard rfl rfl rfl rfl hk114 ?_
                          refine RW.op1 rfl (runs_move rfl) ?_
                          refine RW.on_guard rfl rfl rfl rfl hk114 ?_
                          refine RW.op1 rfl (Grow.len Try.underlying42 rfl G.gA) ?_
                          refine RW.on_guard rfl rfl rfl rfl hk114 ?_
                          refine RW.op1 rfl (runs_neI rfl rfl) ?_
                          refine RW.op1 rfl (runs_pick_false rfl hk114 rfl) ?_
                          refine RW.done ?_
                          exact AQ.meet () hst ⟨rfl, rfl, rfl, rfl, rfl, rfl, rfl, rfl, rfl, rfl, rfl, rfl, rfl, (by first | rfl | (show some (Value.bool (decide _)) = _; simp)), trivial⟩
                        · rintro _ w hstn
                          clear hst
                          have hst := hstn
                          clear hstn
                          refine AQ.next ?_
                          refine CW.cond rfl (fun hc => absurd hc (by decide)) (fun hc => ?_)
                          refine CW.skip ?_
                          refine AQ.next ?_
                          refine CW.seq ?_
                          -- region 23
                          refine CW.region ?_
                          refine RW.op1 rfl (runs_move rfl) ?_
                          refine RW.opE rfl (runs_lit1R Try.underlying42 ti3 (by decide) rfl rfl rfl (by simp [Value.oneCell']) hst) ?_
                          rintro u33 w ⟨I33, hI33, hstn, h33⟩
                          clear hst
                          have hst := hstn
                          clear hstn
                          replace G := G.mono hI33
                          replace hle := hle.trans hI33
                          have hk9 : RdI _ u33 [2, 1, 2] := h33
                          refine RW.call rfl call21 rfl rfl (crash_spec hd2 hst hk9) ?_
                          rintro e w ⟨Ld3, rfl, hstn, hd3⟩
                          clear hst
                          have hst := hstn
                          clear hstn
                          refine ⟨_, rfl, ?_⟩
                          refine RW.done ?_
                          refine AQ.next ?_
                          -- region 24
                          refine CW.region ?_
                          refine RW.op1 rfl (runs_move rfl) ?_
                          refine RW.opE rfl (runs_makeSlice (n := 32) Try.underlying26 ti5 rfl hst (by omega) (by unfold maxLen; omega)) ?_
                          rintro _ w ⟨b125, rfl, hstn⟩
                          clear hst
                          have hst := hstn
                          clear hstn
                          rw [made_b8] at hst
                          obtain ⟨I125, hI125, hstn, hz9⟩ := RdB.of_block (n := 32) (by simp) hst (by unfold maxLen; omega)
                          clear hst
                          have hst := hstn
                          clear hstn
                          replace hle := hle.trans hI125
                          replace G := G.mono hI125
                          refine RW.call rfl call12 rfl rfl (write_spec hd3 hst 0 hz9 (by show 0 ≤ 1000000; decide)) ?_
                          rintro e w ⟨I126, Ld4, hI126, rfl, hstn, hd4⟩
                          clear hst
                          have hst := hstn
                          clear hstn
                          replace G := G.mono hI126
                          replace hle := hle.trans hI126
                          refine ⟨_, rfl, ?_⟩
                          replace hst := (hst.sub (List.sublist_append_right _ _)).perm (perm_mm _ _ _ _).symm
                          have hfin := plays_fin ({ x with J := I126 } : PS) hst G hle (show x.S.pend.length ≤ k + 1 by omega)
                          refine RW.done ?_
                          exact AQ.meet _ hfin ⟨rfl, rfl, rfl, rfl, rfl, rfl, rfl, rfl, rfl, (by first | rfl | exact congrArg (fun z => some (Value.int .i64 z)) h14), (by first | rfl | exact congrArg (fun z => some (Value.bool z)) h15), rfl, trivial⟩
            · rintro y w ⟨hst, G2, hle, hp2⟩
              unfold PWd at hst
              refine AQ.block_normal ?_
              refine AQ.next ?_
              refine CW.seq ?_
              -- region 88
              refine CW.region ?_
              refine RW.op1 rfl (runs_move rfl) ?_
              refine RW.call rfl call20 rfl rfl (pending_spec G2.hd (hst.perm (perm_mm _ _ _ _))) ?_
              rintro e w ⟨rfl, hstn⟩
              clear hst
              have hst := hstn
              clear hstn
              replace hst := hst.perm (perm_mm _ _ _ _).symm
              refine ⟨_, rfl, ?_⟩
              refine RW.op1 rfl (runs_move rfl) ?_
              refine RW.op1 rfl (Grow.len Try.underlying42 rfl G2.gA) ?_
              refine RW.op1 rfl (runs_neI rfl rfl) ?_
              refine RW.op1 rfl (runs_move rfl) ?_
              have hk338 := (show decide (((y.S.pend.length : Nat) : Int) ≠ ((y.S.pend.length : Nat) : Int)) = false by simp)
              refine RW.on_guard rfl rfl rfl rfl hk338 ?_
              refine RW.op1 rfl (runs_move rfl) ?_
              refine RW.on_guard rfl rfl rfl rfl hk338 ?_
              refine RW.call rfl call14 rfl rfl (down_spec G2.hd (hst.perm (perm_mm _ _ _ _))) ?_
              rintro e w ⟨rfl, hstn⟩
              clear hst
              have hst := hstn
              clear hstn
              replace hst := hst.perm (perm_mm _ _ _ _).symm
              refine ⟨_, rfl, ?_⟩
              refine RW.on_guard rfl rfl rfl rfl hk338 ?_
              refine RW.op1 rfl (runs_move rfl) ?_
              refine RW.on_guard rfl rfl rfl rfl hk338 ?_
              refine RW.op1 rfl (runs_neB Try.underlying4 rfl rfl) ?_
              refine RW.op1 rfl (runs_pick_false rfl hk338 rfl) ?_
              refine RW.done ?_
              refine AQ.next ?_
              refine CW.cond rfl (fun hc => absurd hc (by simp)) (fun hc => ?_)
              refine CW.skip ?_
              refine AQ.block_normal ?_
              refine AQ.next ?_
              -- region 14
              refine CW.region ?_
              refine RW.op1 rfl (runs_move rfl) ?_
              refine RW.op1 rfl (runs_add rfl rfl (by omega)) ?_
              rw [show 3 * (k : Int) + 3 = 3 * ((k + 1 : Nat) : Int) by omega]
              refine RW.op1 rfl (runs_assign rfl) ?_
              refine RW.done ?_
              exact AQ.again (x := (x, k)) (y, k + 1) ⟨hst, G2, hle, hp2, by omega⟩ ⟨rfl, rfl, rfl, rfl, rfl, rfl, rfl, rfl, rfl, rfl, rfl, rfl, trivial⟩ (by dsimp only; omega)
      · have hcb61 := hc61
        try simp only [decide_eq_true_eq, decide_eq_false_iff_not] at hc61
        refine CW.exit ?_
        refine AQ.past_exit ?_
        refine AQ.past_exit ?_
        refine AQ.block_hit ?_
        refine AQ.next ?_
        refine CW.seq ?_
        -- region 90
        refine CW.region ?_
        refine RW.op1 rfl (runs_move rfl) ?_
        refine RW.call rfl call10 rfl rfl (len_spec G.hd (hst.perm (perm_mm _ _ _ _))) ?_
        rintro e w ⟨rfl, hstn⟩
        clear hst
        have hst := hstn
        clear hstn
        have hn9 := G.hn
        refine ⟨_, rfl, ?_⟩
        refine RW.op1 rfl (runs_move rfl) ?_
        refine RW.op1 rfl (runs_eqI rfl rfl) ?_
        refine RW.op1 rfl (runs_move rfl) ?_
        have hk348 := (show decide (((x.S.secs.length : Nat) : Int) = (n : Int)) = true by rw [hn9]; simp)
        refine RW.on_guard rfl rfl rfl rfl hk348 ?_
        refine RW.call rfl call15 rfl rfl (wakes01_spec hst) ?_
        rintro e w ⟨I40, hI40, rfl, hstn⟩
        clear hst
        have hst := hstn
        clear hstn
        replace hle := hle.trans hI40
        refine ⟨_, rfl, ?_⟩
        refine RW.op1 rfl (runs_pick_true rfl hk348 rfl) ?_
        refine RW.op1 rfl (runs_assign rfl) ?_
        refine RW.done ?_
        refine AQ.next ?_
        refine CW.ret ?_
        refine AQ.ret1 rfl rfl ?_
        exact ⟨rfl, _, hle, hst.sub (((((List.sublist_append_right x.Lx L).trans (List.sublist_append_right x.La _)).trans (List.sublist_cons_self _ _)).trans (List.sublist_cons_self _ _)).trans (List.sublist_append_right x.Ld _))⟩
    · have hb58p := hb58
      try simp only [decide_eq_true_eq, decide_eq_false_iff_not] at hb58p
      skip
      refine RW.off_guard rfl rfl rfl rfl hb58 ?_
      refine RW.off_guard rfl rfl rfl rfl hb58 ?_
      refine RW.op1 rfl (runs_pick_false rfl hb58 rfl) ?_
      refine RW.done ?_
      refine AQ.next ?_
      refine CW.cond_false rfl ?_
      refine CW.exit ?_
      refine AQ.past_exit ?_
      refine AQ.past_exit ?_
      refine AQ.block_hit ?_
      refine AQ.next ?_
      refine CW.seq ?_
      -- region 90
      refine CW.region ?_
      refine RW.op1 rfl (runs_move rfl) ?_
      refine RW.call rfl call10 rfl rfl (len_spec G.hd (hst.perm (perm_mm _ _ _ _))) ?_
      rintro e w ⟨rfl, hstn⟩
      clear hst
      have hst := hstn
      clear hstn
      have hn9 := G.hn
      refine ⟨_, rfl, ?_⟩
      refine RW.op1 rfl (runs_move rfl) ?_
      refine RW.op1 rfl (runs_eqI rfl rfl) ?_
      refine RW.op1 rfl (runs_move rfl) ?_
      have hk348 := (show decide (((x.S.secs.length : Nat) : Int) = (n : Int)) = true by rw [hn9]; simp)
      refine RW.on_guard rfl rfl rfl rfl hk348 ?_
      refine RW.call rfl call15 rfl rfl (wakes01_spec hst) ?_
      rintro e w ⟨I42, hI42, rfl, hstn⟩
      clear hst
      have hst := hstn
      clear hstn
      replace hle := hle.trans hI42
      refine ⟨_, rfl, ?_⟩
      refine RW.op1 rfl (runs_pick_true rfl hk348 rfl) ?_
      refine RW.op1 rfl (runs_assign rfl) ?_
      refine RW.done ?_
      refine AQ.next ?_
      refine CW.ret ?_
      refine AQ.ret1 rfl rfl ?_
      exact ⟨rfl, _, hle, hst.sub (((((List.sublist_append_right x.Lx L).trans (List.sublist_append_right x.La _)).trans (List.sublist_cons_self _ _)).trans (List.sublist_cons_self _ _)).trans (List.sublist_append_right x.Ld _))⟩
end Go.Proofs.YtdhgbcbnkddfdaaX
