/- What was encoded is safe, is encoded to itself, decodes to the text: the walk. -/
import Derived.Test.YthblbockghgchaaT
import Derived.Test.YthblbockghgchaaQ7
namespace Go.Proofs.YthblbockghgchaaX
set_option linter.unusedVariables false
set_option linter.unusedSimpArgs false
open Go Go.RowKit Go.Proofs

set_option maxRecDepth 100000 in
set_option maxHeartbeats 1000000 in
theorem pback_spec {w0 w : World} {I : Imm} {L : Own} (hst : St w0 w I L) {v0 : Value} {xs : List Int} (hv0 : RdI I v0 xs) (hxl : xs.length ≤ 9223372036854775807) :
    Calls Try.prog 7 #[v0] w fun e w' => e = .returned (.bool true) ∧ ∃ I', I.le I' ∧ St w0 w' I' L := by
  refine enter Try.func7 rfl (N := 127) rfl rfl ?_
  simp only [List.zipIdx_cons, List.zipIdx_nil, List.map_cons, List.map_nil, Nat.zero_add, Nat.reduceAdd]
  have hle := Imm.le.refl I
  refine CW.seq ?_
  -- region 0
  refine CW.region ?_
  refine RW.op1 rfl (runs_assign rfl) ?_
  refine RW.done ?_
  refine AQ.next ?_
  refine CW.seq ?_
  -- region 1
  refine CW.region ?_
  refine RW.op1 rfl (runs_assign rfl) ?_
  refine RW.done ?_
  refine AQ.next ?_
  refine CW.seq ?_
  refine CW.seq ?_
  -- region 2
  refine CW.region ?_
  refine RW.op1 rfl (runs_move rfl) ?_
  refine RW.op1 rfl (RdL.len Try.underlying35 rfl hv0) ?_
  refine RW.op1 rfl (runs_move rfl) ?_
  refine RW.done ?_
  refine AQ.next ?_
  refine CW.block ?_
  -- loop 1
  refine CW.loop Nat (fun k w => St w0 w I L ∧ k ≤ xs.length) (fun k => [(3, .string (strOf (txt (rsK xs k)))), (10, v0), (11, .int .i64 (xs.length : Nat)), (12, .int .i64 (k : Nat))]) (fun k => xs.length - k) ⟨0, ⟨hst, Nat.zero_le _⟩, ⟨rfl, rfl, rfl, rfl, trivial⟩⟩ ?_
  rintro k w ⟨hstn, hk⟩
  clear hst
  have hst := hstn
  clear hstn
  refine CW.seq ?_
  -- region 3
  refine CW.region ?_
  refine RW.op1 rfl (runs_lss rfl rfl) ?_
  refine RW.done ?_
  refine AQ.next ?_
  refine CW.seq ?_
  refine CW.cond rfl (fun hc13 => ?_) (fun hc13 => ?_)
  · have hcb13 := hc13
    try simp only [decide_eq_true_eq, decide_eq_false_iff_not] at hc13
    have hk1 : k < xs.length := by omega
    have hfl := fix_le (iat xs (k : Int))
    refine CW.skip ?_
    refine AQ.next ?_
    refine CW.seq ?_
    refine CW.block ?_
    refine CW.seq ?_
    -- region 4
    refine CW.region ?_
    refine RW.op1 rfl (runs_move rfl) ?_
    refine RW.op1 rfl (RdL.indexAddr Try.underlying35 ti3 (by decide) rfl rfl hv0 (by omega)) ?_
    refine RW.op1 rfl (runs_load1 sc3 rfl (hst.cell_imm (RdI.at hv0 (by omega) (by omega)))) ?_
    refine RW.op1 rfl (runs_assign rfl) ?_
    refine RW.op1 rfl (runs_assign rfl) ?_
    refine RW.done ?_
    refine AQ.next ?_
    refine CW.seq ?_
    refine CW.seq ?_
    -- region 5
    refine CW.region ?_
    refine RW.op1 rfl (runs_move rfl) ?_
    refine RW.op1 rfl (runs_lss rfl rfl) ?_
    refine RW.op1 rfl (runs_move rfl) ?_
    refine RW.split (t := 19) rfl (fun hb19 => ?_) (fun hb19 => ?_)
    · have hb19p := hb19
      try simp only [decide_eq_true_eq, decide_eq_false_iff_not] at hb19p
      refine RW.off_guard rfl rfl rfl rfl hb19 ?_
      refine RW.off_guard rfl rfl rfl rfl hb19 ?_
      refine RW.op1 rfl (runs_pick_true rfl hb19 rfl) ?_
      refine RW.op1 rfl (runs_move rfl) ?_
      refine RW.off_guard rfl rfl rfl rfl rfl ?_
      refine RW.off_guard rfl rfl rfl rfl rfl ?_
      refine RW.off_guard rfl rfl rfl rfl rfl ?_
      refine RW.off_undef rfl rfl rfl rfl ?_
      refine RW.off_undef rfl rfl rfl rfl ?_
      refine RW.off_guard rfl rfl rfl rfl rfl ?_
      refine RW.op1 rfl (runs_pick_true rfl rfl rfl) ?_
      refine RW.op1 rfl (runs_move rfl) ?_
      refine RW.off_guard rfl rfl rfl rfl rfl ?_
      refine RW.off_guard rfl rfl rfl rfl rfl ?_
      refine RW.op1 rfl (runs_pick_true rfl rfl rfl) ?_
      refine RW.done ?_
      refine AQ.next ?_
      refine CW.cut Unit (fun _ w => St w0 w I L) (fun _ => [(3, .string (strOf (txt (rsK xs k)))), (4, .int .i64 (k : Nat)), (5, .int .i64 ((fixR (iat xs (k : Int))) : Nat)), (10, v0), (11, .int .i64 (xs.length : Nat)), (12, .int .i64 (k : Nat))]) ?_ ?_
      · refine CW.cond rfl (fun hc34 => ?_) (fun hc34 => ?_)
        · have hcb34 := hc34
          try simp only [decide_eq_true_eq, decide_eq_false_iff_not] at hc34
          -- region 6
          refine CW.region ?_
          refine RW.op1 rfl (runs_assign rfl) ?_
          refine RW.done ?_
          first
            | exact AQ.meet () hst ⟨rfl, rfl, congrArg (fun z => some (Value.int .i64 z)) (fix_bad (by omega)), rfl, rfl, rfl, trivial⟩
            | exact AQ.meet () hst ⟨rfl, rfl, congrArg (fun z => some (Value.int .i64 z)) (fix_ok (by omega)), rfl, rfl, rfl, trivial⟩
            | (exfalso; simp_all; done)
        · have hcb34 := hc34
          try simp only [decide_eq_true_eq, decide_eq_false_iff_not] at hc34
          refine CW.skip ?_
          first
            | exact AQ.meet () hst ⟨rfl, rfl, congrArg (fun z => some (Value.int .i64 z)) (fix_bad (by omega)), rfl, rfl, rfl, trivial⟩
            | exact AQ.meet () hst ⟨rfl, rfl, congrArg (fun z => some (Value.int .i64 z)) (fix_ok (by omega)), rfl, rfl, rfl, trivial⟩
            | (exfalso; simp_all; done)
      · rintro _ w hstn
        clear hst
        have hst := hstn
        clear hstn
        refine AQ.next ?_
        refine CW.seq ?_
        -- region 7
        refine CW.region ?_
        refine RW.op1 rfl (runs_move rfl) ?_
        refine RW.op1 rfl (runs_lss rfl rfl) ?_
        refine RW.done ?_
        refine AQ.next ?_
        refine CW.cond rfl (fun hc36 => ?_) (fun hc36 => ?_)
        · have hcb36 := hc36
          try simp only [decide_eq_true_eq, decide_eq_false_iff_not] at hc36
          have hk40 : k < 40 := by omega
          have hnx := rsK_next hk1 hk40
          -- region 8
          refine CW.region ?_
          refine RW.op1 rfl (runs_move rfl) ?_
          refine RW.op1 rfl (runs_move rfl) ?_
          refine RW.op1 rfl (runs_convI (by rw [Try.underlying3]; rfl) Try.underlying21 rfl) ?_
          rw [wrap_32 hfl.1]
          refine RW.op1 rfl (runs_runeStr (by rw [Try.underlying21]; rfl) Try.underlying9 rfl) ?_
          rw [enc_str]
          have hz := strOf_size (txt (rsK xs k))
          have hz1 := rsK_len xs k
          have hz2 := strOf_size (encL ((fixR (iat xs (k : Int))) : Nat))
          have hz3 := (encL_len ((fixR (iat xs (k : Int))) : Nat)).2
          refine RW.op1 rfl (runs_addS rfl rfl (by omega)) ?_
          rw [strOf_app, ← hnx]
          refine RW.op1 rfl (runs_assign rfl) ?_
          refine RW.done ?_
          refine AQ.block_normal ?_
          refine AQ.next ?_
          -- region 9
          refine CW.region ?_
          refine RW.op1 rfl (runs_add rfl rfl (by omega)) ?_
          refine RW.op1 rfl (runs_move rfl) ?_
          refine RW.done ?_
          exact AQ.again (x := k) (k + 1) ⟨hst, by omega⟩ ⟨rfl, rfl, rfl, rfl, trivial⟩ (by omega)
        · have hcb36 := hc36
          try simp only [decide_eq_true_eq, decide_eq_false_iff_not] at hc36
          have hnx := rsK_stay (xs := xs) (k := k) (by omega)
          refine CW.skip ?_
          refine AQ.block_normal ?_
          refine AQ.next ?_
          -- region 9
          refine CW.region ?_
          refine RW.op1 rfl (runs_add rfl rfl (by omega)) ?_
          refine RW.op1 rfl (runs_move rfl) ?_
          refine RW.done ?_
          exact AQ.again (x := k) (k + 1) ⟨hst, by omega⟩ ⟨by rw [hnx]; rfl, rfl, rfl, rfl, trivial⟩ (by omega)
    · have hb19p := hb19
      try simp only [decide_eq_true_eq, decide_eq_false_iff_not] at hb19p
      refine RW.on_guard rfl rfl rfl rfl hb19 ?_
      refine RW.op1 rfl (runs_move rfl) ?_
      refine RW.on_guard rfl rfl rfl rfl hb19 ?_
      refine RW.op1 rfl (runs_gtr rfl rfl) ?_
      refine RW.op1 rfl (runs_pick_false rfl hb19 rfl) ?_
      refine RW.op1 rfl (runs_move rfl) ?_
      refine RW.split (t := 23) rfl (fun hb23 => ?_) (fun hb23 => ?_)
      · have hb23p := hb23
        try simp only [decide_eq_true_eq, decide_eq_false_iff_not] at hb23p
        refine RW.off_guard rfl rfl rfl rfl hb23 ?_
        refine RW.off_guard rfl rfl rfl rfl hb23 ?_
        refine RW.off_guard rfl rfl rfl rfl hb23 ?_
        refine RW.off_undef rfl rfl rfl rfl ?_
        refine RW.off_undef rfl rfl rfl rfl ?_
        refine RW.off_guard rfl rfl rfl rfl hb23 ?_
        refine RW.op1 rfl (runs_pick_true rfl hb23 rfl) ?_
        refine RW.op1 rfl (runs_move rfl) ?_
        refine RW.off_guard rfl rfl rfl rfl rfl ?_
        refine RW.off_guard rfl rfl rfl rfl rfl ?_
        refine RW.op1 rfl (runs_pick_true rfl rfl rfl) ?_
        refine RW.done ?_
        refine AQ.next ?_
        refine CW.cut Unit (fun _ w => St w0 w I L) (fun _ => [(3, .string (strOf (txt (rsK xs k)))), (4, .int .i64 (k : Nat)), (5, .int .i64 ((fixR (iat xs (k : Int))) : Nat)), (10, v0), (11, .int .i64 (xs.length : Nat)), (12, .int .i64 (k : Nat))]) ?_ ?_
        · refine CW.cond rfl (fun hc34 => ?_) (fun hc34 => ?_)
          · have hcb34 := hc34
            try simp only [decide_eq_true_eq, decide_eq_false_iff_not] at hc34
            -- region 6
            refine CW.region ?_
            refine RW.op1 rfl (runs_assign rfl) ?_
            refine RW.done ?_
            first
              | exact AQ.meet () hst ⟨rfl, rfl, congrArg (fun z => some (Value.int .i64 z)) (fix_bad (by omega)), rfl, rfl, rfl, trivial⟩
              | exact AQ.meet () hst ⟨rfl, rfl, congrArg (fun z => some (Value.int .i64 z)) (fix_ok (by omega)), rfl, rfl, rfl, trivial⟩
              | (exfalso; simp_all; done)
          · have hcb34 := hc34
            try simp only [decide_eq_true_eq, decide_eq_false_iff_not] at hc34
            refine CW.skip ?_
            first
              | exact AQ.meet () hst ⟨rfl, rfl, congrArg (fun z => some (Value.int .i64 z)) (fix_bad (by omega)), rfl, rfl, rfl, trivial⟩
              | exact AQ.meet () hst ⟨rfl, rfl, congrArg (fun z => some (Value.int .i64 z)) (fix_ok (by omega)), rfl, rfl, rfl, trivial⟩
              | (exfalso; simp_all; done)
        · rintro _ w hstn
          clear hst
          have hst := hstn
          clear hstn
          refine AQ.next ?_
          refine CW.seq ?_
          -- region 7
          refine CW.region ?_
          refine RW.op1 rfl (runs_move rfl) ?_
          refine RW.op1 rfl (runs_lss rfl rfl) ?_
          refine RW.done ?_
          refine AQ.next ?_
          refine CW.cond rfl (fun hc36 => ?_) (fun hc36 => ?_)
          · have hcb36 := hc36
            try simp only [decide_eq_true_eq, decide_eq_false_iff_not] at hc36
            have hk40 : k < 40 := by omega
            have hnx := rsK_next hk1 hk40
            -- region 8
            refine CW.region ?_
            refine RW.op1 rfl (runs_move rfl) ?_
            refine RW.op1 rfl (runs_move rfl) ?_
            refine RW.op1 rfl (runs_convI (by rw [Try.underlying3]; rfl) Try.underlying21 rfl) ?_
            rw [wrap_32 hfl.1]
            refine RW.op1 rfl (runs_runeStr (by rw [Try.underlying21]; rfl) Try.underlying9 rfl) ?_
            rw [enc_str]
            have hz := strOf_size (txt (rsK xs k))
            have hz1 := rsK_len xs k
            have hz2 := strOf_size (encL ((fixR (iat xs (k : Int))) : Nat))
            have hz3 := (encL_len ((fixR (iat xs (k : Int))) : Nat)).2
            refine RW.op1 rfl (runs_addS rfl rfl (by omega)) ?_
            rw [strOf_app, ← hnx]
            refine RW.op1 rfl (runs_assign rfl) ?_
            refine RW.done ?_
            refine AQ.block_normal ?_
            refine AQ.next ?_
            -- region 9
            refine CW.region ?_
            refine RW.op1 rfl (runs_add rfl rfl (by omega)) ?_
            refine RW.op1 rfl (runs_move rfl) ?_
            refine RW.done ?_
            exact AQ.again (x := k) (k + 1) ⟨hst, by omega⟩ ⟨by rw [hnx]; rfl, rfl, rfl, rfl, trivial⟩ (by omega)
          · have hcb36 := hc36
            try simp only [decide_eq_true_eq, decide_eq_false_iff_not] at hc36
            have hnx := rsK_stay (xs := xs) (k := k) (by omega)
            refine CW.skip ?_
            refine AQ.block_normal ?_
            refine AQ.next ?_
            -- region 9
            refine CW.region ?_
            refine RW.op1 rfl (runs_add rfl rfl (by omega)) ?_
            refine RW.op1 rfl (runs_move rfl) ?_
            refine RW.done ?_
            exact AQ.again (x := k) (k + 1) ⟨hst, by omega⟩ ⟨by rw [hnx]; rfl, rfl, rfl, rfl, trivial⟩ (by omega)
      · have hb23p := hb23
        try simp only [decide_eq_true_eq, decide_eq_false_iff_not] at hb23p
        refine RW.on_guard rfl rfl rfl rfl hb23 ?_
        refine RW.op1 rfl (runs_move rfl) ?_
        refine RW.on_guard rfl rfl rfl rfl hb23 ?_
        refine RW.op1 rfl (runs_geq rfl rfl) ?_
        refine RW.on_guard rfl rfl rfl rfl hb23 ?_
        refine RW.op1 rfl (runs_move rfl) ?_
        refine RW.split (t := 26) rfl (fun hb26 => ?_) (fun hb26 => ?_)
        · have hb26p := hb26
          try simp only [decide_eq_true_eq, decide_eq_false_iff_not] at hb26p
          refine RW.on_guard rfl rfl rfl rfl hb26 ?_
          refine RW.op1 rfl (runs_move rfl) ?_
          refine RW.on_guard rfl rfl rfl rfl hb26 ?_
          refine RW.op1 rfl (runs_lss rfl rfl) ?_
          refine RW.on_guard rfl rfl rfl rfl hb23 ?_
          refine RW.op1 rfl (runs_pick_true rfl hb26 rfl) ?_
          refine RW.op1 rfl (runs_pick_false rfl hb23 rfl) ?_
          refine RW.op1 rfl (runs_move rfl) ?_
          refine RW.split (t := 31) rfl (fun hb31 => ?_) (fun hb31 => ?_)
          · have hb31p := hb31
            try simp only [decide_eq_true_eq, decide_eq_false_iff_not] at hb31p
            refine RW.off_guard rfl rfl rfl rfl hb31 ?_
            refine RW.off_guard rfl rfl rfl rfl hb31 ?_
            refine RW.op1 rfl (runs_pick_true rfl hb31 rfl) ?_
            refine RW.done ?_
            refine AQ.next ?_
            refine CW.cut Unit (fun _ w => St w0 w I L) (fun _ => [(3, .string (strOf (txt (rsK xs k)))), (4, .int .i64 (k : Nat)), (5, .int .i64 ((fixR (iat xs (k : Int))) : Nat)), (10, v0), (11, .int .i64 (xs.length : Nat)), (12, .int .i64 (k : Nat))]) ?_ ?_
            · refine CW.cond rfl (fun hc34 => ?_) (fun hc34 => ?_)
              · have hcb34 := hc34
                try simp only [decide_eq_true_eq, decide_eq_false_iff_not] at hc34
                -- region 6
                refine CW.region ?_
                refine RW.op1 rfl (runs_assign rfl) ?_
                refine RW.done ?_
                first
                  | exact AQ.meet () hst ⟨rfl, rfl, congrArg (fun z => some (Value.int .i64 z)) (fix_bad (by omega)), rfl, rfl, rfl, trivial⟩
                  | exact AQ.meet () hst ⟨rfl, rfl, congrArg (fun z => some (Value.int .i64 z)) (fix_ok (by omega)), rfl, rfl, rfl, trivial⟩
                  | (exfalso; simp_all; done)
              · have hcb34 := hc34
                try simp only [decide_eq_true_eq, decide_eq_false_iff_not] at hc34
                refine CW.skip ?_
                first
                  | exact AQ.meet () hst ⟨rfl, rfl, congrArg (fun z => some (Value.int .i64 z)) (fix_bad (by omega)), rfl, rfl, rfl, trivial⟩
                  | exact AQ.meet () hst ⟨rfl, rfl, congrArg (fun z => some (Value.int .i64 z)) (fix_ok (by omega)), rfl, rfl, rfl, trivial⟩
                  | (exfalso; simp_all; done)
            · rintro _ w hstn
              clear hst
              have hst := hstn
              clear hstn
              refine AQ.next ?_
              refine CW.seq ?_
              -- region 7
              refine CW.region ?_
              refine RW.op1 rfl (runs_move rfl) ?_
              refine RW.op1 rfl (runs_lss rfl rfl) ?_
              refine RW.done ?_
              refine AQ.next ?_
              refine CW.cond rfl (fun hc36 => ?_) (fun hc36 => ?_)
              · have hcb36 := hc36
                try simp only [decide_eq_true_eq, decide_eq_false_iff_not] at hc36
                have hk40 : k < 40 := by omega
                have hnx := rsK_next hk1 hk40
                -- region 8
                refine CW.region ?_
                refine RW.op1 rfl (runs_move rfl) ?_
                refine RW.op1 rfl (runs_move rfl) ?_
                refine RW.op1 rfl (runs_convI (by rw [Try.underlying3]; rfl) Try.underlying21 rfl) ?_
                rw [wrap_32 hfl.1]
                refine RW.op1 rfl (runs_runeStr (by rw [Try.underlying21]; rfl) Try.underlying9 rfl) ?_
                rw [enc_str]
                have hz := strOf_size (txt (rsK xs k))
                have hz1 := rsK_len xs k
                have hz2 := strOf_size (encL ((fixR (iat xs (k : Int))) : Nat))
                have hz3 := (encL_len ((fixR (iat xs (k : Int))) : Nat)).2
                refine RW.op1 rfl (runs_addS rfl rfl (by omega)) ?_
                rw [strOf_app, ← hnx]
                refine RW.op1 rfl (runs_assign rfl) ?_
                refine RW.done ?_
                refine AQ.block_normal ?_
                refine AQ.next ?_
                -- region 9
                refine CW.region ?_
                refine RW.op1 rfl (runs_add rfl rfl (by omega)) ?_
                refine RW.op1 rfl (runs_move rfl) ?_
                refine RW.done ?_
                exact AQ.again (x := k) (k + 1) ⟨hst, by omega⟩ ⟨by rw [hnx]; rfl, rfl, rfl, rfl, trivial⟩ (by omega)
              · have hcb36 := hc36
                try simp only [decide_eq_true_eq, decide_eq_false_iff_not] at hc36
                have hnx := rsK_stay (xs := xs) (k := k) (by omega)
                refine CW.skip ?_
                refine AQ.block_normal ?_
                refine AQ.next ?_
                -- region 9
                refine CW.region ?_
                refine RW.op1 rfl (runs_add rfl rfl (by omega)) ?_
                refine RW.op1 rfl (runs_move rfl) ?_
                refine RW.done ?_
                exact AQ.again (x := k) (k + 1) ⟨hst, by omega⟩ ⟨by rw [hnx]; rfl, rfl, rfl, rfl, trivial⟩ (by omega)
          · have hb31p := hb31
            try simp only [decide_eq_true_eq, decide_eq_false_iff_not] at hb31p
            refine RW.on_guard rfl rfl rfl rfl hb31 ?_
            refine RW.op1 rfl (runs_move rfl) ?_
            refine RW.on_guard rfl rfl rfl rfl hb31 ?_
            refine RW.op1 rfl (runs_eqI rfl rfl) ?_
            refine RW.op1 rfl (runs_pick_false rfl hb31 rfl) ?_
            refine RW.done ?_
            refine AQ.next ?_
            refine CW.cut Unit (fun _ w => St w0 w I L) (fun _ => [(3, .string (strOf (txt (rsK xs k)))), (4, .int .i64 (k : Nat)), (5, .int .i64 ((fixR (iat xs (k : Int))) : Nat)), (10, v0), (11, .int .i64 (xs.length : Nat)), (12, .int .i64 (k : Nat))]) ?_ ?_
            · refine CW.cond rfl (fun hc34 => ?_) (fun hc34 => ?_)
              · have hcb34 := hc34
                try simp only [decide_eq_true_eq, decide_eq_false_iff_not] at hc34
                -- region 6
                refine CW.region ?_
                refine RW.op1 rfl (runs_assign rfl) ?_
                refine RW.done ?_
                first
                  | exact AQ.meet () hst ⟨rfl, rfl, congrArg (fun z => some (Value.int .i64 z)) (fix_bad (by omega)), rfl, rfl, rfl, trivial⟩
                  | exact AQ.meet () hst ⟨rfl, rfl, congrArg (fun z => some (Value.int .i64 z)) (fix_ok (by omega)), rfl, rfl, rfl, trivial⟩
                  | (exfalso; simp_all; done)
              · have hcb34 := hc34
                try simp only [decide_eq_true_eq, decide_eq_false_iff_not] at hc34
                refine CW.skip ?_
                first
                  | exact AQ.meet () hst ⟨rfl, rfl, congrArg (fun z => some (Value.int .i64 z)) (fix_bad (by omega)), rfl, rfl, rfl, trivial⟩
                  | exact AQ.meet () hst ⟨rfl, rfl, congrArg (fun z => some (Value.int .i64 z)) (fix_ok (by omega)), rfl, rfl, rfl, trivial⟩
                  | (exfalso; simp_all; done)
            · rintro _ w hstn
              clear hst
              have hst := hstn
              clear hstn
              refine AQ.next ?_
              refine CW.seq ?_
              -- region 7
              refine CW.region ?_
              refine RW.op1 rfl (runs_move rfl) ?_
              refine RW.op1 rfl (runs_lss rfl rfl) ?_
              refine RW.done ?_
              refine AQ.next ?_
              refine CW.cond rfl (fun hc36 => ?_) (fun hc36 => ?_)
              · have hcb36 := hc36
                try simp only [decide_eq_true_eq, decide_eq_false_iff_not] at hc36
                have hk40 : k < 40 := by omega
                have hnx := rsK_next hk1 hk40
                -- region 8
                refine CW.region ?_
                refine RW.op1 rfl (runs_move rfl) ?_
                refine RW.op1 rfl (runs_move rfl) ?_
                refine RW.op1 rfl (runs_convI (by rw [Try.underlying3]; rfl) Try.underlying21 rfl) ?_
                rw [wrap_32 hfl.1]
                refine RW.op1 rfl (runs_runeStr (by rw [Try.underlying21]; rfl) Try.underlying9 rfl) ?_
                rw [enc_str]
                have hz := strOf_size (txt (rsK xs k))
                have hz1 := rsK_len xs k
                have hz2 := strOf_size (encL ((fixR (iat xs (k : Int))) : Nat))
                have hz3 := (encL_len ((fixR (iat xs (k : Int))) : Nat)).2
                refine RW.op1 rfl (runs_addS rfl rfl (by omega)) ?_
                rw [strOf_app, ← hnx]
                refine RW.op1 rfl (runs_assign rfl) ?_
                refine RW.done ?_
                refine AQ.block_normal ?_
                refine AQ.next ?_
                -- region 9
                refine CW.region ?_
                refine RW.op1 rfl (runs_add rfl rfl (by omega)) ?_
                refine RW.op1 rfl (runs_move rfl) ?_
                refine RW.done ?_
                exact AQ.again (x := k) (k + 1) ⟨hst, by omega⟩ ⟨by rw [hnx]; rfl, rfl, rfl, rfl, trivial⟩ (by omega)
              · have hcb36 := hc36
                try simp only [decide_eq_true_eq, decide_eq_false_iff_not] at hc36
                have hnx := rsK_stay (xs := xs) (k := k) (by omega)
                refine CW.skip ?_
                refine AQ.block_normal ?_
                refine AQ.next ?_
                -- region 9
                refine CW.region ?_
                refine RW.op1 rfl (runs_add rfl rfl (by omega)) ?_
                refine RW.op1 rfl (runs_move rfl) ?_
                refine RW.done ?_
                exact AQ.again (x := k) (k + 1) ⟨hst, by omega⟩ ⟨by rw [hnx]; rfl, rfl, rfl, rfl, trivial⟩ (by omega)
        · have hb26p := hb26
          try simp only [decide_eq_true_eq, decide_eq_false_iff_not] at hb26p
          refine RW.off_guard rfl rfl rfl rfl hb26 ?_
          refine RW.off_guard rfl rfl rfl rfl hb26 ?_
          refine RW.on_guard rfl rfl rfl rfl hb23 ?_
          refine RW.op1 rfl (runs_pick_false rfl hb26 rfl) ?_
          refine RW.op1 rfl (runs_pick_false rfl hb23 rfl) ?_
          refine RW.op1 rfl (runs_move rfl) ?_
          refine RW.on_guard rfl rfl rfl rfl rfl ?_
          refine RW.op1 rfl (runs_move rfl) ?_
          refine RW.on_guard rfl rfl rfl rfl rfl ?_
          refine RW.op1 rfl (runs_eqI rfl rfl) ?_
          refine RW.op1 rfl (runs_pick_false rfl rfl rfl) ?_
          refine RW.done ?_
          refine AQ.next ?_
          refine CW.cut Unit (fun _ w => St w0 w I L) (fun _ => [(3, .string (strOf (txt (rsK xs k)))), (4, .int .i64 (k : Nat)), (5, .int .i64 ((fixR (iat xs (k : Int))) : Nat)), (10, v0), (11, .int .i64 (xs.length : Nat)), (12, .int .i64 (k : Nat))]) ?_ ?_
          · refine CW.cond rfl (fun hc34 => ?_) (fun hc34 => ?_)
            · have hcb34 := hc34
              try simp only [decide_eq_true_eq, decide_eq_false_iff_not] at hc34
              -- region 6
              refine CW.region ?_
              refine RW.op1 rfl (runs_assign rfl) ?_
              refine RW.done ?_
              first
                | exact AQ.meet () hst ⟨rfl, rfl, congrArg (fun z => some (Value.int .i64 z)) (fix_bad (by omega)), rfl, rfl, rfl, trivial⟩
                | exact AQ.meet () hst ⟨rfl, rfl, congrArg (fun z => some (Value.int .i64 z)) (fix_ok (by omega)), rfl, rfl, rfl, trivial⟩
                | (exfalso; simp_all; done)
            · have hcb34 := hc34
              try simp only [decide_eq_true_eq, decide_eq_false_iff_not] at hc34
              refine CW.skip ?_
              first
                | exact AQ.meet () hst ⟨rfl, rfl, congrArg (fun z => some (Value.int .i64 z)) (fix_bad (by omega)), rfl, rfl, rfl, trivial⟩
                | exact AQ.meet () hst ⟨rfl, rfl, congrArg (fun z => some (Value.int .i64 z)) (fix_ok (by omega)), rfl, rfl, rfl, trivial⟩
                | (exfalso; simp_all; done)
          · rintro _ w hstn
            clear hst
            have hst := hstn
            clear hstn
            refine AQ.next ?_
            refine CW.seq ?_
            -- region 7
            refine CW.region ?_
            refine RW.op1 rfl (runs_move rfl) ?_
            refine RW.op1 rfl (runs_lss rfl rfl) ?_
            refine RW.done ?_
            refine AQ.next ?_
            refine CW.cond rfl (fun hc36 => ?_) (fun hc36 => ?_)
            · have hcb36 := hc36
              try simp only [decide_eq_true_eq, decide_eq_false_iff_not] at hc36
              have hk40 : k < 40 := by omega
              have hnx := rsK_next hk1 hk40
              -- region 8
              refine CW.region ?_
              refine RW.op1 rfl (runs_move rfl) ?_
              refine RW.op1 rfl (runs_move rfl) ?_
              refine RW.op1 rfl (runs_convI (by rw [Try.underlying3]; rfl) Try.underlying21 rfl) ?_
              rw [wrap_32 hfl.1]
              refine RW.op1 rfl (runs_runeStr (by rw [Try.underlying21]; rfl) Try.underlying9 rfl) ?_
              rw [enc_str]
              have hz := strOf_size (txt (rsK xs k))
              have hz1 := rsK_len xs k
              have hz2 := strOf_size (encL ((fixR (iat xs (k : Int))) : Nat))
              have hz3 := (encL_len ((fixR (iat xs (k : Int))) : Nat)).2
              refine RW.op1 rfl (runs_addS rfl rfl (by omega)) ?_
              rw [strOf_app, ← hnx]
              refine RW.op1 rfl (runs_assign rfl) ?_
              refine RW.done ?_
              refine AQ.block_normal ?_
              refine AQ.next ?_
              -- region 9
              refine CW.region ?_
              refine RW.op1 rfl (runs_add rfl rfl (by omega)) ?_
              refine RW.op1 rfl (runs_move rfl) ?_
              refine RW.done ?_
              exact AQ.again (x := k) (k + 1) ⟨hst, by omega⟩ ⟨by rw [hnx]; rfl, rfl, rfl, rfl, trivial⟩ (by omega)
            · have hcb36 := hc36
              try simp only [decide_eq_true_eq, decide_eq_false_iff_not] at hc36
              have hnx := rsK_stay (xs := xs) (k := k) (by omega)
              refine CW.skip ?_
              refine AQ.block_normal ?_
              refine AQ.next ?_
              -- region 9
              refine CW.region ?_
              refine RW.op1 rfl (runs_add rfl rfl (by omega)) ?_
              refine RW.op1 rfl (runs_move rfl) ?_
              refine RW.done ?_
              exact AQ.again (x := k) (k + 1) ⟨hst, by omega⟩ ⟨by rw [hnx]; rfl, rfl, rfl, rfl, trivial⟩ (by omega)
  · have hcb13 := hc13
    try simp only [decide_eq_true_eq, decide_eq_false_iff_not] at hc13
    obtain rfl : k = xs.length := by omega
    refine CW.exit ?_
    refine AQ.past_exit ?_
    refine AQ.past_exit ?_
    refine AQ.block_hit ?_
    refine AQ.next ?_
    refine CW.seq ?_
    -- region 10
    refine CW.region ?_
    obtain ⟨hrv, hr37⟩ := rsK_ok xs xs.length
    have hz1 := rsK_len xs xs.length
    generalize rsK xs xs.length = rs at hrv hr37 hz1 ⊢
    have hback := back_law hrv hr37
    have hsafe := safe_encB (l := txt rs)
    have htw := encB_twice (txt rs)
    have hel := encB_len (txt rs)
    have hsz := strOf_size (txt rs)
    generalize htb : encB (txt rs) = tb at hback hsafe htw hel
    have htz := strOf_size tb
    refine RW.op1 rfl (runs_move rfl) ?_
    refine RW.call rfl call8 rfl rfl (encode_spec hst (strOf (txt rs)) (by omega)) ?_
    rintro e w ⟨IE, hIE, rfl, hstn⟩
    clear hst
    have hst := hstn
    clear hstn
    rw [strOf_toList, htb]
    replace hle := hle.trans hIE
    refine ⟨_, rfl, ?_⟩
    refine RW.op1 rfl (runs_assign rfl) ?_
    refine RW.done ?_
    refine AQ.next ?_
    refine CW.seq ?_
    refine CW.seq ?_
    -- region 11
    refine CW.region ?_
    refine RW.op1 rfl (runs_assign rfl) ?_
    refine RW.done ?_
    refine AQ.next ?_
    refine CW.block ?_
    -- loop 2
    refine CW.loop Nat (fun i w => St w0 w IE L ∧ i ≤ tb.length) (fun i => [(3, .string (strOf (txt rs))), (6, .string (strOf tb)), (7, .int .i64 (i : Nat))]) (fun i => tb.length - i) ⟨0, ⟨hst, Nat.zero_le _⟩, ⟨rfl, rfl, rfl, trivial⟩⟩ ?_
    rintro i w ⟨hstn, hi⟩
    clear hst
    have hst := hstn
    clear hstn
    refine CW.seq ?_
    refine CW.seq ?_
    -- region 12
    refine CW.region ?_
    refine RW.op1 rfl (runs_move rfl) ?_
    refine RW.op1 rfl (runs_move rfl) ?_
    refine RW.op1 rfl (runs_lenS Try.underlying9 rfl) ?_
    refine RW.op1 rfl (runs_lss rfl rfl) ?_
    refine RW.done ?_
    refine AQ.next ?_
    refine CW.cond rfl (fun hc48 => ?_) (fun hc48 => ?_)
    · have hcb48 := hc48
      try simp only [decide_eq_true_eq, decide_eq_false_iff_not] at hc48
      have hi1 : i < tb.length := by omega
      obtain ⟨c, hc⟩ : ∃ c, tb.getD i 0 = c := ⟨_, rfl⟩
      have hcs : safeR c.toNat = true := hsafe c (by rw [← hc]; simp [hi1])
      obtain ⟨f1, f2, f3, f4, f5, f6, f7⟩ := safe_facts hcs
      refine CW.skip ?_
      refine AQ.next ?_
      refine CW.seq ?_
      refine CW.block ?_
      refine CW.seq ?_
      -- region 14
      refine CW.region ?_
      refine RW.op1 rfl (runs_move rfl) ?_
      refine RW.op1 rfl (runs_move rfl) ?_
      refine RW.op1 rfl (runs_indexL Try.underlying9 rfl rfl (by omega) (by omega)) ?_
      rw [show ((i : Nat) : Int).toNat = i from Int.toNat_natCast i, strOf_toList, hc]
      refine RW.op1 rfl (runs_lss rfl rfl) ?_
      refine RW.op1 rfl (runs_move rfl) ?_
      have hk55 := (show decide ((c.toNat : Int) < 33) = false from decide_eq_false (by omega))
      refine RW.on_guard rfl rfl rfl rfl hk55 ?_
      refine RW.op1 rfl (runs_move rfl) ?_
      refine RW.on_guard rfl rfl rfl rfl hk55 ?_
      refine RW.op1 rfl (runs_move rfl) ?_
      refine RW.on_guard rfl rfl rfl rfl hk55 ?_
      refine RW.op1 rfl (runs_indexL Try.underlying9 rfl rfl (by omega) (by omega)) ?_
      rw [show ((i : Nat) : Int).toNat = i from Int.toNat_natCast i, strOf_toList, hc]
      refine RW.on_guard rfl rfl rfl rfl hk55 ?_
      refine RW.op1 rfl (runs_gtr rfl rfl) ?_
      refine RW.op1 rfl (runs_pick_false rfl hk55 rfl) ?_
      refine RW.op1 rfl (runs_move rfl) ?_
      have hk61 := (show decide ((c.toNat : Int) > 126) = false from decide_eq_false (by omega))
      refine RW.on_guard rfl rfl rfl rfl hk61 ?_
      refine RW.op1 rfl (runs_move rfl) ?_
      refine RW.on_guard rfl rfl rfl rfl hk61 ?_
      refine RW.op1 rfl (runs_move rfl) ?_
      refine RW.on_guard rfl rfl rfl rfl hk61 ?_
      refine RW.op1 rfl (runs_indexL Try.underlying9 rfl rfl (by omega) (by omega)) ?_
      rw [show ((i : Nat) : Int).toNat = i from Int.toNat_natCast i, strOf_toList, hc]
      refine RW.on_guard rfl rfl rfl rfl hk61 ?_
      refine RW.op1 rfl (runs_eqI rfl rfl) ?_
      refine RW.op1 rfl (runs_pick_false rfl hk61 rfl) ?_
      refine RW.op1 rfl (runs_move rfl) ?_
      have hk67 := (show decide ((c.toNat : Int) = 34) = false from decide_eq_false (by omega))
      refine RW.on_guard rfl rfl rfl rfl hk67 ?_
      refine RW.op1 rfl (runs_move rfl) ?_
      refine RW.on_guard rfl rfl rfl rfl hk67 ?_
      refine RW.op1 rfl (runs_move rfl) ?_
      refine RW.on_guard rfl rfl rfl rfl hk67 ?_
      refine RW.op1 rfl (runs_indexL Try.underlying9 rfl rfl (by omega) (by omega)) ?_
      rw [show ((i : Nat) : Int).toNat = i from Int.toNat_natCast i, strOf_toList, hc]
      refine RW.on_guard rfl rfl rfl rfl hk67 ?_
      refine RW.op1 rfl (runs_eqI rfl rfl) ?_
      refine RW.op1 rfl (runs_pick_false rfl hk67 rfl) ?_
      refine RW.op1 rfl (runs_move rfl) ?_
      have hk73 := (show decide ((c.toNat : Int) = 35) = false from decide_eq_false (by omega))
      refine RW.on_guard rfl rfl rfl rfl hk73 ?_
      refine RW.op1 rfl (runs_move rfl) ?_
      refine RW.on_guard rfl rfl rfl rfl hk73 ?_
      refine RW.op1 rfl (runs_move rfl) ?_
      refine RW.on_guard rfl rfl rfl rfl hk73 ?_
      refine RW.op1 rfl (runs_indexL Try.underlying9 rfl rfl (by omega) (by omega)) ?_
      rw [show ((i : Nat) : Int).toNat = i from Int.toNat_natCast i, strOf_toList, hc]
      refine RW.on_guard rfl rfl rfl rfl hk73 ?_
      refine RW.op1 rfl (runs_eqI rfl rfl) ?_
      refine RW.op1 rfl (runs_pick_false rfl hk73 rfl) ?_
      refine RW.op1 rfl (runs_move rfl) ?_
      have hk79 := (show decide ((c.toNat : Int) = 60) = false from decide_eq_false (by omega))
      refine RW.on_guard rfl rfl rfl rfl hk79 ?_
      refine RW.op1 rfl (runs_move rfl) ?_
      refine RW.on_guard rfl rfl rfl rfl hk79 ?_
      refine RW.op1 rfl (runs_move rfl) ?_
      refine RW.on_guard rfl rfl rfl rfl hk79 ?_
      refine RW.op1 rfl (runs_indexL Try.underlying9 rfl rfl (by omega) (by omega)) ?_
      rw [show ((i : Nat) : Int).toNat = i from Int.toNat_natCast i, strOf_toList, hc]
      refine RW.on_guard rfl rfl rfl rfl hk79 ?_
      refine RW.op1 rfl (runs_eqI rfl rfl) ?_
      refine RW.op1 rfl (runs_pick_false rfl hk79 rfl) ?_
      refine RW.op1 rfl (runs_move rfl) ?_
      have hk85 := (show decide ((c.toNat : Int) = 62) = false from decide_eq_false (by omega))
      refine RW.on_guard rfl rfl rfl rfl hk85 ?_
      refine RW.op1 rfl (runs_move rfl) ?_
      refine RW.on_guard rfl rfl rfl rfl hk85 ?_
      refine RW.op1 rfl (runs_move rfl) ?_
      refine RW.on_guard rfl rfl rfl rfl hk85 ?_
      refine RW.op1 rfl (runs_indexL Try.underlying9 rfl rfl (by omega) (by omega)) ?_
      rw [show ((i : Nat) : Int).toNat = i from Int.toNat_natCast i, strOf_toList, hc]
      refine RW.on_guard rfl rfl rfl rfl hk85 ?_
      refine RW.op1 rfl (runs_eqI rfl rfl) ?_
      refine RW.op1 rfl (runs_pick_false rfl hk85 rfl) ?_
      refine RW.done ?_
      refine AQ.next ?_
      refine CW.cond rfl (fun hc => absurd hc (by simp; omega)) (fun hc => ?_)
      refine CW.skip ?_
      refine AQ.block_normal ?_
      refine AQ.next ?_
      -- region 13
      refine CW.region ?_
      refine RW.op1 rfl (runs_move rfl) ?_
      refine RW.op1 rfl (runs_add rfl rfl (by omega)) ?_
      refine RW.op1 rfl (runs_assign rfl) ?_
      refine RW.done ?_
      exact AQ.again (x := i) (i + 1) ⟨hst, by omega⟩ ⟨rfl, rfl, rfl, trivial⟩ (by omega)
    · have hcb48 := hc48
      try simp only [decide_eq_true_eq, decide_eq_false_iff_not] at hc48
      skip
      refine CW.exit ?_
      refine AQ.past_exit ?_
      refine AQ.past_exit ?_
      refine AQ.block_hit ?_
      refine AQ.next ?_
      refine CW.seq ?_
      -- region 16
      refine CW.region ?_
      refine RW.op1 rfl (runs_move rfl) ?_
      refine RW.call rfl call11 rfl rfl (decode_spec hst (strOf tb) (by omega)) ?_
      rintro e w ⟨I2, hI2, rfl, hstn⟩
      clear hst
      have hst := hstn
      clear hstn
      rw [strOf_toList, hback]
      dsimp only [Option.getD, Option.isSome]
      replace hle := hle.trans hI2
      refine ⟨_, rfl, ?_⟩
      refine RW.op1 rfl (runs_move rfl) ?_
      refine RW.op1 rfl (runs_extract rfl rfl) ?_
      refine RW.op1 rfl (runs_extract rfl rfl) ?_
      refine RW.op1 rfl (runs_assign rfl) ?_
      refine RW.op1 rfl (runs_assign rfl) ?_
      refine RW.done ?_
      refine AQ.next ?_
      refine CW.seq ?_
      -- region 17
      refine CW.region ?_
      refine RW.op1 rfl (runs_move rfl) ?_
      refine RW.op1 rfl (runs_move rfl) ?_
      have hk97 := (show true = true from rfl)
      refine RW.on_guard rfl rfl rfl rfl hk97 ?_
      refine RW.op1 rfl (runs_move rfl) ?_
      refine RW.on_guard rfl rfl rfl rfl hk97 ?_
      refine RW.op1 rfl (runs_move rfl) ?_
      refine RW.on_guard rfl rfl rfl rfl hk97 ?_
      refine RW.op1 rfl (runs_eqS rfl rfl) ?_
      refine RW.op1 rfl (runs_pick_true rfl hk97 rfl) ?_
      refine RW.op1 rfl (runs_move rfl) ?_
      have hk102 := (show ((strOf (txt rs)).toList == (strOf (txt rs)).toList) = true from beq_self_list _)
      refine RW.on_guard rfl rfl rfl rfl hk102 ?_
      refine RW.op1 rfl (runs_move rfl) ?_
      refine RW.on_guard rfl rfl rfl rfl hk102 ?_
      refine RW.call rfl call8 rfl rfl (encode_spec hst (strOf tb) (by omega)) ?_
      rintro e w ⟨I3, hI3, rfl, hstn⟩
      clear hst
      have hst := hstn
      clear hstn
      rw [strOf_toList, htw]
      replace hle := hle.trans hI3
      refine ⟨_, rfl, ?_⟩
      refine RW.on_guard rfl rfl rfl rfl hk102 ?_
      refine RW.op1 rfl (runs_move rfl) ?_
      refine RW.on_guard rfl rfl rfl rfl hk102 ?_
      refine RW.op1 rfl (runs_eqS rfl rfl) ?_
      refine RW.op1 rfl (runs_pick_true rfl hk102 rfl) ?_
      refine RW.op1 rfl (runs_move rfl) ?_
      have hk108 := (show ((strOf tb).toList == (strOf tb).toList) = true from beq_self_list _)
      refine RW.on_guard rfl rfl rfl rfl hk108 ?_
      refine RW.op1 rfl (runs_move rfl) ?_
      refine RW.on_guard rfl rfl rfl rfl hk108 ?_
      refine RW.call rfl call13 rfl rfl (trim_spec hst (strOf (txt rs)) (by omega)) ?_
      rintro e w ⟨rfl, hstn⟩
      clear hst
      have hst := hstn
      clear hstn
      rw [strOf_toList]
      have hbl := trimB_len (txt rs)
      have hbz := strOf_size (trimB (txt rs))
      refine ⟨_, rfl, ?_⟩
      refine RW.on_guard rfl rfl rfl rfl hk108 ?_
      refine RW.call rfl call13 rfl rfl (trim_spec hst (strOf (trimB (txt rs))) (by omega)) ?_
      rintro e w ⟨rfl, hstn⟩
      clear hst
      have hst := hstn
      clear hstn
      rw [strOf_toList, trimB_twice]
      refine ⟨_, rfl, ?_⟩
      refine RW.on_guard rfl rfl rfl rfl hk108 ?_
      refine RW.op1 rfl (runs_move rfl) ?_
      refine RW.on_guard rfl rfl rfl rfl hk108 ?_
      refine RW.call rfl call13 rfl rfl (trim_spec hst (strOf (txt rs)) (by omega)) ?_
      rintro e w ⟨rfl, hstn⟩
      clear hst
      have hst := hstn
      clear hstn
      rw [strOf_toList]
      refine ⟨_, rfl, ?_⟩
      refine RW.on_guard rfl rfl rfl rfl hk108 ?_
      refine RW.op1 rfl (runs_eqS rfl rfl) ?_
      refine RW.op1 rfl (runs_pick_true rfl hk108 rfl) ?_
      refine RW.op1 rfl (runs_move rfl) ?_
      have hk116 := (show ((strOf (trimB (txt rs))).toList == (strOf (trimB (txt rs))).toList) = true from beq_self_list _)
      refine RW.on_guard rfl rfl rfl rfl hk116 ?_
      refine RW.op1 rfl (runs_move rfl) ?_
      refine RW.on_guard rfl rfl rfl rfl hk116 ?_
      refine RW.call rfl call9 rfl rfl (lower_spec hst (strOf (txt rs)) (by omega)) ?_
      rintro e w ⟨I7, hI7, rfl, hstn⟩
      clear hst
      have hst := hstn
      clear hstn
      rw [strOf_toList]
      have hlz := strOf_size (lower (txt rs))
      have hll : (lower (txt rs)).length = (txt rs).length := by unfold lower; rw [List.length_map]
      replace hle := hle.trans hI7
      refine ⟨_, rfl, ?_⟩
      refine RW.on_guard rfl rfl rfl rfl hk116 ?_
      refine RW.call rfl call9 rfl rfl (lower_spec hst (strOf (lower (txt rs))) (by omega)) ?_
      rintro e w ⟨I8, hI8, rfl, hstn⟩
      clear hst
      have hst := hstn
      clear hstn
      rw [strOf_toList, lower_twice]
      replace hle := hle.trans hI8
      refine ⟨_, rfl, ?_⟩
      refine RW.on_guard rfl rfl rfl rfl hk116 ?_
      refine RW.op1 rfl (runs_move rfl) ?_
      refine RW.on_guard rfl rfl rfl rfl hk116 ?_
      refine RW.call rfl call9 rfl rfl (lower_spec hst (strOf (txt rs)) (by omega)) ?_
      rintro e w ⟨I9, hI9, rfl, hstn⟩
      clear hst
      have hst := hstn
      clear hstn
      rw [strOf_toList]
      replace hle := hle.trans hI9
      refine ⟨_, rfl, ?_⟩
      refine RW.on_guard rfl rfl rfl rfl hk116 ?_
      refine RW.op1 rfl (runs_eqS rfl rfl) ?_
      refine RW.op1 rfl (runs_pick_true rfl hk116 rfl) ?_
      refine RW.op1 rfl (runs_move rfl) ?_
      have hk124 := (show ((strOf (lower (txt rs))).toList == (strOf (lower (txt rs))).toList) = true from beq_self_list _)
      refine RW.on_guard rfl rfl rfl rfl hk124 ?_
      refine RW.call rfl call10 rfl rfl (wakes06_spec hst) ?_
      rintro e w ⟨I10, hI10, rfl, hstn⟩
      clear hst
      have hst := hstn
      clear hstn
      replace hle := hle.trans hI10
      refine ⟨_, rfl, ?_⟩
      refine RW.op1 rfl (runs_pick_true rfl hk124 rfl) ?_
      refine RW.op1 rfl (runs_assign rfl) ?_
      refine RW.done ?_
      refine AQ.next ?_
      refine CW.ret ?_
      refine AQ.ret1 rfl rfl ?_
      exact ⟨rfl, _, hle, hst⟩
end Go.Proofs.YthblbockghgchaaX
