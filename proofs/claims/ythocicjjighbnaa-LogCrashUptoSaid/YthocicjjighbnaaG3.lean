/- A log written, turned, formatted: what these come to. -/
import Derived.Test.YthocicjjighbnaaT
import Derived.Test.YthocicjjighbnaaG2
namespace Go.Proofs.YthocicjjighbnaaX
set_option linter.unusedVariables false
set_option linter.unusedSimpArgs false
open Go Go.RowKit Go.Proofs

def needS (bss : List (List UInt8)) : Nat := (bss.map fun b => needN b.length).sum
def BOk (bss : List (List UInt8)) : Prop := bss.length ≤ 1000 ∧ ∀ b ∈ bss, b.length ≤ 100000
theorem BOk.at {bss : List (List UInt8)} (h : BOk bss) (k : Nat) : (bss.getD k []).length ≤ 100000 := by
  by_cases hk : k < bss.length
  · rw [List.getD_eq_getElem?_getD, List.getElem?_eq_getElem hk]
    exact h.2 _ (List.getElem_mem hk)
  · rw [List.getD_eq_getElem?_getD, List.getElem?_eq_none (by omega)]
    exact Nat.zero_le _
theorem needN_le {b : List UInt8} (h : b.length ≤ 100000) : needN b.length ≤ 5300 := by unfold needN; omega
theorem needS_take {bss : List (List UInt8)} {k : Nat} (hk : k < bss.length) : needS (bss.take (k + 1)) = needS (bss.take k) + needN (bss.getD k []).length := by
  unfold needS
  rw [List.take_add_one, List.getElem?_eq_getElem hk, Option.toList_some, List.map_append, List.sum_append, List.getD_eq_getElem?_getD, List.getElem?_eq_getElem hk]
  simp
theorem needS_le {bss : List (List UInt8)} (h : BOk bss) : ∀ k, k ≤ bss.length → needS (bss.take k) ≤ 5300 * k
  | 0, _ => Nat.le_refl _
  | k + 1, hk => by
    rw [needS_take (by omega)]
    have := needS_le h k (by omega)
    have := needN_le (h.at k)
    omega
def mayL (G : LG) (room : Int) (bss : List (List UInt8)) : Int :=
  if G.bad ≠ 0 then G.bad else if room < (needS bss : Nat) ∨ 16777215 < G.nx + (bss.length : Nat) - 1 then 5 else if (bss.any fun b => decide (255 < needN b.length)) = true then 1 else 0
theorem getD_mem {bss : List (List UInt8)} {k : Nat} (hk : k < bss.length) : bss.getD k [] ∈ bss := by
  rw [List.getD_eq_getElem?_getD, List.getElem?_eq_getElem hk]
  exact List.getElem_mem hk
theorem all_any {bss : List (List UInt8)} (h : ∀ j, j < bss.length → needN (bss.getD j []).length ≤ 255) : (bss.any fun b => decide (255 < needN b.length)) = false := by
  rw [List.any_eq_false]
  intro b hb
  obtain ⟨j, hj, rfl⟩ := List.getElem_of_mem hb
  have := h j hj
  rw [List.getD_eq_getElem?_getD, List.getElem?_eq_getElem hj] at this
  simpa using this
set_option maxRecDepth 100000 in
set_option maxHeartbeats 1000000 in
theorem may_log {w0 w : World} {I : Imm} {L : Own} {d : Value} {lb : Nat} {G : LG} (hst : St w0 w I ((lb, .cells (logV d G).toArray 69) :: L)) {v : Value} {vs : List Value} {bss : List (List UInt8)} (hv : RdR I v vs bss) (hbs : BOk bss) (hn : 0 ≤ G.nx ∧ G.nx ≤ 16777216) (room : Int) :
    Calls Try.prog 38 #[.pointer (some ⟨lb, 0, none⟩), .int .i64 room, v] w fun e w' => e = .returned (.int .i64 (mayL G room bss)) ∧ St w0 w' I ((lb, .cells (logV d G).toArray 69) :: L) := by
  have hvl := hv.2.1
  have hbl := hbs.1
  refine enter Try.func38 rfl (N := 56) rfl rfl ?_
  simp only [List.zipIdx_cons, List.zipIdx_nil, List.map_cons, List.map_nil, Nat.zero_add, Nat.reduceAdd]
  have hle := Imm.le.refl I
  refine CW.seq ?_
  -- region 0
  refine CW.region ?_
  refine RW.op1 rfl (runs_assign rfl) ?_
  refine RW.done ?_
  refine AQ.next ?_
  refine CW.seq ?_
  refine CW.seq ?_
  -- region 1
  refine CW.region ?_
  refine RW.op1 rfl (runs_move rfl) ?_
  refine RW.op1 rfl (runs_nilCheck rfl) ?_
  first
    | refine RW.op1 rfl (runs_fieldAddr0 rfl Try.underlying69 rfl ti26 (by decide)) ?_
    | refine RW.op1 rfl (runs_fieldAddr rfl Try.underlying69 rfl ti26 (by decide)) ?_
  first
    | refine RW.op1 rfl (runs_load1 sc26 rfl (hst.cell_own (k := 0) rfl rfl)) ?_
    | refine RW.op1 rfl (runs_load1 sc26 rfl (hst.cell_own (k := 1) rfl rfl)) ?_
    | refine RW.op1 rfl (runs_load1 sc26 rfl (hst.cell_own (k := 2) rfl rfl)) ?_
  refine RW.op1 rfl (runs_neI rfl rfl) ?_
  refine RW.done ?_
  refine AQ.next ?_
  refine CW.cond rfl (fun hc16 => ?_) (fun hc16 => ?_)
  · have hcb16 := hc16
    try simp only [decide_eq_true_eq, decide_eq_false_iff_not] at hc16
    skip
    refine CW.seq ?_
    -- region 2
    refine CW.region ?_
    refine RW.op1 rfl (runs_move rfl) ?_
    refine RW.op1 rfl (runs_nilCheck rfl) ?_
    first
      | refine RW.op1 rfl (runs_fieldAddr0 rfl Try.underlying69 rfl ti26 (by decide)) ?_
      | refine RW.op1 rfl (runs_fieldAddr rfl Try.underlying69 rfl ti26 (by decide)) ?_
    first
      | refine RW.op1 rfl (runs_load1 sc26 rfl (hst.cell_own (k := 0) rfl rfl)) ?_
      | refine RW.op1 rfl (runs_load1 sc26 rfl (hst.cell_own (k := 1) rfl rfl)) ?_
      | refine RW.op1 rfl (runs_load1 sc26 rfl (hst.cell_own (k := 2) rfl rfl)) ?_
    refine RW.op1 rfl (runs_assign rfl) ?_
    refine RW.done ?_
    refine AQ.next ?_
    refine CW.ret ?_
    refine AQ.past_ret ?_
    refine AQ.ret1 rfl rfl ?_
    have hm : mayL G room bss = G.bad := if_pos (by simpa using hc16)
    rw [hm]
    exact ⟨rfl, hst⟩
  · have hcb16 := hc16
    try simp only [decide_eq_true_eq, decide_eq_false_iff_not] at hc16
    have hb0 : ¬ G.bad ≠ 0 := by simpa using hc16
    refine CW.skip ?_
    refine AQ.next ?_
    refine CW.seq ?_
    -- region 3
    refine CW.region ?_
    refine RW.op1 rfl (runs_assign rfl) ?_
    refine RW.done ?_
    refine AQ.next ?_
    refine CW.seq ?_
    refine CW.seq ?_
    -- region 4
    refine CW.region ?_
    refine RW.op1 rfl (runs_move rfl) ?_
    refine RW.op1 rfl (RdL.len Try.underlying29 rfl hv.1) ?_
    refine RW.op1 rfl (runs_move rfl) ?_
    refine RW.done ?_
    refine AQ.next ?_
    refine CW.block ?_
    -- loop 1
    refine CW.loop Nat (fun k w => St w0 w I ((lb, .cells (logV d G).toArray 69) :: L) ∧ k ≤ vs.length) (fun k => [(0, .pointer (some ⟨lb, 0, none⟩)), (1, .int .i64 room), (2, v), (7, .int .i64 ((needS (bss.take k) : Nat) : Int)), (21, v), (22, .int .i64 (vs.length : Nat)), (23, .int .i64 (k : Int))]) (fun k => vs.length - k) ⟨0, ⟨hst, Nat.zero_le _⟩, ⟨rfl, rfl, rfl, rfl, rfl, rfl, rfl, trivial⟩⟩ ?_
    rintro k w ⟨hstn, hk⟩
    clear hst
    have hst := hstn
    clear hstn
    have hns := needS_le hbs k (by omega)
    refine CW.seq ?_
    -- region 5
    refine CW.region ?_
    refine RW.op1 rfl (runs_lss rfl rfl) ?_
    refine RW.done ?_
    refine AQ.next ?_
    refine CW.seq ?_
    refine CW.cond rfl (fun hc24 => ?_) (fun hc24 => ?_)
    · have hcb24 := hc24
      try simp only [decide_eq_true_eq, decide_eq_false_iff_not] at hc24
      have hk1 : k < vs.length := by omega
      have hn1 := needN_le (hbs.at k)
      have hnt := needS_take (bss := bss) (k := k) (by omega)
      refine CW.skip ?_
      refine AQ.next ?_
      refine CW.seq ?_
      refine CW.block ?_
      refine CW.seq ?_
      -- region 6
      refine CW.region ?_
      refine RW.op1 rfl (RdL.indexAddr Try.underlying29 ti33 (by decide) rfl rfl hv.1 (by omega)) ?_
      refine RW.op1 rfl (runs_load1 sc33 rfl (hst.cell_imm (RdR.at hv (by omega) (by omega)))) ?_
      refine RW.op1 rfl (runs_assign rfl) ?_
      refine RW.done ?_
      refine AQ.next ?_
      -- region 7
      refine CW.region ?_
      refine RW.op1 rfl (runs_move rfl) ?_
      refine RW.op1 rfl (runs_move rfl) ?_
      refine RW.call rfl call47 rfl rfl (need_spec hst (hv.row (i := k) hk1) (by have := hbs.at k; omega)) ?_
      rintro e w ⟨rfl, hstn⟩
      clear hst
      have hst := hstn
      clear hstn
      refine ⟨_, rfl, ?_⟩
      refine RW.op1 rfl (runs_add rfl rfl (by omega)) ?_
      refine RW.op1 rfl (runs_assign rfl) ?_
      refine RW.done ?_
      refine AQ.block_normal ?_
      refine AQ.next ?_
      -- region 8
      refine CW.region ?_
      refine RW.op1 rfl (runs_add rfl rfl (by omega)) ?_
      refine RW.op1 rfl (runs_move rfl) ?_
      refine RW.done ?_
      exact AQ.again (x := k) (k + 1) ⟨hst, by omega⟩ ⟨rfl, rfl, rfl, by rw [hnt]; exact congrArg (fun x => some (Value.int .i64 x)) (by omega), rfl, rfl, rfl, trivial⟩ (by omega)
    · have hcb24 := hc24
      try simp only [decide_eq_true_eq, decide_eq_false_iff_not] at hc24
      have hke : bss.take k = bss := List.take_of_length_le (by omega)
      rw [hke] at hns ⊢
      refine CW.exit ?_
      refine AQ.past_exit ?_
      refine AQ.past_exit ?_
      refine AQ.block_hit ?_
      refine AQ.next ?_
      refine CW.seq ?_
      refine CW.seq ?_
      -- region 9
      refine CW.region ?_
      refine RW.op1 rfl (runs_move rfl) ?_
      refine RW.op1 rfl (runs_move rfl) ?_
      refine RW.op1 rfl (runs_gtr rfl rfl) ?_
      refine RW.op1 rfl (runs_move rfl) ?_
      refine RW.split (t := 35) rfl (fun hb35 => ?_) (fun hb35 => ?_)
      · have hb35p := hb35
        try simp only [decide_eq_true_eq, decide_eq_false_iff_not] at hb35p
        refine RW.off_guard rfl rfl rfl rfl hb35 ?_
        refine RW.off_guard rfl rfl rfl rfl hb35 ?_
        refine RW.off_guard rfl rfl rfl rfl hb35 ?_
        refine RW.off_guard rfl rfl rfl rfl hb35 ?_
        refine RW.off_guard rfl rfl rfl rfl hb35 ?_
        refine RW.off_guard rfl rfl rfl rfl hb35 ?_
        refine RW.off_guard rfl rfl rfl rfl hb35 ?_
        refine RW.off_guard rfl rfl rfl rfl hb35 ?_
        refine RW.off_guard rfl rfl rfl rfl hb35 ?_
        refine RW.op1 rfl (runs_pick_true rfl hb35 rfl) ?_
        refine RW.done ?_
        refine AQ.next ?_
        skip
        refine CW.cond_true rfl ?_
        refine CW.seq ?_
        -- region 10
        refine CW.region ?_
        refine RW.op1 rfl (runs_assign rfl) ?_
        refine RW.done ?_
        refine AQ.next ?_
        refine CW.ret ?_
        refine AQ.past_ret ?_
        refine AQ.ret1 rfl rfl ?_
        have hm : mayL G room bss = 5 := by unfold mayL; rw [if_neg hb0, if_pos (by omega)]
        rw [hm]
        exact ⟨rfl, hst⟩
      · have hb35p := hb35
        try simp only [decide_eq_true_eq, decide_eq_false_iff_not] at hb35p
        refine RW.on_guard rfl rfl rfl rfl hb35 ?_
        refine RW.op1 rfl (runs_move rfl) ?_
        refine RW.on_guard rfl rfl rfl rfl hb35 ?_
        refine RW.op1 rfl (runs_nilCheck rfl) ?_
        refine RW.on_guard rfl rfl rfl rfl hb35 ?_
        first
          | refine RW.op1 rfl (runs_fieldAddr0 rfl Try.underlying69 rfl ti3 (by decide)) ?_
          | refine RW.op1 rfl (runs_fieldAddr rfl Try.underlying69 rfl ti3 (by decide)) ?_
        refine RW.on_guard rfl rfl rfl rfl hb35 ?_
        first
          | refine RW.op1 rfl (runs_load1 sc3 rfl (hst.cell_own (k := 0) rfl rfl)) ?_
          | refine RW.op1 rfl (runs_load1 sc3 rfl (hst.cell_own (k := 1) rfl rfl)) ?_
          | refine RW.op1 rfl (runs_load1 sc3 rfl (hst.cell_own (k := 2) rfl rfl)) ?_
        refine RW.on_guard rfl rfl rfl rfl hb35 ?_
        refine RW.op1 rfl (runs_move rfl) ?_
        refine RW.on_guard rfl rfl rfl rfl hb35 ?_
        refine RW.op1 rfl (RdL.len Try.underlying29 rfl hv.1) ?_
        refine RW.on_guard rfl rfl rfl rfl hb35 ?_
        refine RW.op1 rfl (runs_add rfl rfl (by omega)) ?_
        refine RW.on_guard rfl rfl rfl rfl hb35 ?_
        refine RW.op1 rfl (runs_sub rfl rfl (by omega)) ?_
        refine RW.on_guard rfl rfl rfl rfl hb35 ?_
        refine RW.op1 rfl (runs_gtr rfl rfl) ?_
        refine RW.op1 rfl (runs_pick_false rfl hb35 rfl) ?_
        refine RW.done ?_
        refine AQ.next ?_
        refine CW.cond rfl (fun hc45 => ?_) (fun hc45 => ?_)
        · have hcb45 := hc45
          try simp only [decide_eq_true_eq, decide_eq_false_iff_not] at hc45
          skip
          refine CW.seq ?_
          -- region 10
          refine CW.region ?_
          refine RW.op1 rfl (runs_assign rfl) ?_
          refine RW.done ?_
          refine AQ.next ?_
          refine CW.ret ?_
          refine AQ.past_ret ?_
          refine AQ.ret1 rfl rfl ?_
          have hm : mayL G room bss = 5 := by unfold mayL; rw [if_neg hb0, if_pos (by omega)]
          rw [hm]
          exact ⟨rfl, hst⟩
        · have hcb45 := hc45
          try simp only [decide_eq_true_eq, decide_eq_false_iff_not] at hc45
          have hno : ¬ (room < (needS bss : Nat) ∨ 16777215 < G.nx + (bss.length : Nat) - 1) := by omega
          refine CW.skip ?_
          refine AQ.next ?_
          refine CW.seq ?_
          refine CW.seq ?_
          -- region 11
          refine CW.region ?_
          refine RW.op1 rfl (runs_move rfl) ?_
          refine RW.op1 rfl (RdL.len Try.underlying29 rfl hv.1) ?_
          refine RW.op1 rfl (runs_move rfl) ?_
          refine RW.done ?_
          refine AQ.next ?_
          refine CW.block ?_
          -- loop 2
          refine CW.loop Nat (fun k w => St w0 w I ((lb, .cells (logV d G).toArray 69) :: L) ∧ k ≤ vs.length ∧ ∀ j, j < k → needN (bss.getD j []).length ≤ 255) (fun k => [(0, .pointer (some ⟨lb, 0, none⟩)), (46, v), (47, .int .i64 (vs.length : Nat)), (48, .int .i64 (k : Int))]) (fun k => vs.length - k) ⟨0, ⟨hst, Nat.zero_le _, fun j h => absurd h (Nat.not_lt_zero _)⟩, ⟨rfl, rfl, rfl, rfl, trivial⟩⟩ ?_
          rintro q w ⟨hstn, hk, hall⟩
          clear hst
          have hst := hstn
          clear hstn
          refine CW.seq ?_
          -- region 12
          refine CW.region ?_
          refine RW.op1 rfl (runs_lss rfl rfl) ?_
          refine RW.done ?_
          refine AQ.next ?_
          refine CW.seq ?_
          refine CW.cond rfl (fun hc49 => ?_) (fun hc49 => ?_)
          · have hcb49 := hc49
            try simp only [decide_eq_true_eq, decide_eq_false_iff_not] at hc49
            have hk1 : q < vs.length := by omega
            have hn1 := needN_le (hbs.at q)
            refine CW.skip ?_
            refine AQ.next ?_
            refine CW.seq ?_
            refine CW.block ?_
            refine CW.seq ?_
            -- region 13
            refine CW.region ?_
            refine RW.op1 rfl (RdL.indexAddr Try.underlying29 ti33 (by decide) rfl rfl hv.1 (by omega)) ?_
            refine RW.op1 rfl (runs_load1 sc33 rfl (hst.cell_imm (RdR.at hv (by omega) (by omega)))) ?_
            refine RW.op1 rfl (runs_assign rfl) ?_
            refine RW.done ?_
            refine AQ.next ?_
            refine CW.seq ?_
            -- region 14
            refine CW.region ?_
            refine RW.op1 rfl (runs_move rfl) ?_
            refine RW.call rfl call47 rfl rfl (need_spec hst (hv.row (i := q) hk1) (by have := hbs.at q; omega)) ?_
            rintro e w ⟨rfl, hstn⟩
            clear hst
            have hst := hstn
            clear hstn
            refine ⟨_, rfl, ?_⟩
            refine RW.op1 rfl (runs_gtr rfl rfl) ?_
            refine RW.done ?_
            refine AQ.next ?_
            refine CW.cond rfl (fun hc54 => ?_) (fun hc54 => ?_)
            · have hcb54 := hc54
              try simp only [decide_eq_true_eq, decide_eq_false_iff_not] at hc54
              refine CW.seq ?_
              -- region 15
              refine CW.region ?_
              refine RW.op1 rfl (runs_assign rfl) ?_
              refine RW.done ?_
              refine AQ.next ?_
              refine CW.ret ?_
              refine AQ.block_ret ?_
              refine AQ.past_ret ?_
              refine AQ.past_ret ?_
              refine AQ.block_ret ?_
              refine AQ.past_ret ?_
              refine AQ.ret1 rfl rfl ?_
              have hm : mayL G room bss = 1 := by
                unfold mayL
                rw [if_neg hb0, if_neg hno, if_pos]
                rw [List.any_eq_true]
                exact ⟨_, getD_mem (k := q) (by omega), by simp only [decide_eq_true_eq]; omega⟩
              rw [hm]
              exact ⟨rfl, hst⟩
            · have hcb54 := hc54
              try simp only [decide_eq_true_eq, decide_eq_false_iff_not] at hc54
              refine CW.skip ?_
              refine AQ.block_normal ?_
              refine AQ.next ?_
              -- region 16
              refine CW.region ?_
              refine RW.op1 rfl (runs_add rfl rfl (by omega)) ?_
              refine RW.op1 rfl (runs_move rfl) ?_
              refine RW.done ?_
              exact AQ.again (x := q) (q + 1) ⟨hst, by omega, fun j hj => by
                by_cases h : j < q
                · exact hall j h
                · obtain rfl : j = q := by omega
                  omega⟩ ⟨rfl, rfl, rfl, rfl, trivial⟩ (by omega)
          · have hcb49 := hc49
            try simp only [decide_eq_true_eq, decide_eq_false_iff_not] at hc49
            skip
            refine CW.exit ?_
            refine AQ.past_exit ?_
            refine AQ.past_exit ?_
            refine AQ.block_hit ?_
            refine AQ.next ?_
            refine CW.seq ?_
            -- region 17
            refine CW.region ?_
            refine RW.op1 rfl (runs_assign rfl) ?_
            refine RW.done ?_
            refine AQ.next ?_
            refine CW.ret ?_
            refine AQ.ret1 rfl rfl ?_
            have hm : mayL G room bss = 0 := by
              unfold mayL
              rw [if_neg hb0, if_neg hno, all_any (fun j hj => hall j (by omega))]
              rfl
            rw [hm]
            exact ⟨rfl, hst⟩
/-- Rows written one behind the other, and flushed. -/
inductive WrR (e : Int) : DS → Int → Int → List (List UInt8) → DS → Int → Int → Prop
  | nil {S : DS} {at_ q : Int} : WrR e S at_ q [] (flushR S).1 at_ (flushR S).2
  | bad {S S' : DS} {at_ q next er : Int} {b : List UInt8} {bss : List (List UInt8)} : FwR S at_ e q b S' next er → er ≠ 0 → WrR e S at_ q (b :: bss) S' 0 er
  | step {S S1 S' : DS} {at_ q next a er : Int} {b : List UInt8} {bss : List (List UInt8)} : FwR S at_ e q b S1 next 0 → WrR e S1 next (q + 1) bss S' a er → WrR e S at_ q (b :: bss) S' a er
theorem fw_any {S S' : DS} {at_ e q next er : Int} {b : List UInt8} (h : FwR S at_ e q b S' next er) : S'.secs = S.secs ∧ S'.pend.length ≤ S.pend.length + 255 ∧ (er = 0 → 0 ≤ next ∧ next ≤ S.secs.length) := by
  replace h := h.out
  split at h
  · obtain ⟨rfl, rfl, rfl⟩ := h
    exact ⟨rfl, by omega, fun h => by omega⟩
  · rename_i h1
    have hn : needN b.length ≤ 255 := by
      by_cases hn : 255 < needN b.length
      · exact absurd (.inr hn) h1
      · omega
    split at h
    · obtain ⟨rfl, rfl, rfl⟩ := h
      exact ⟨rfl, by omega, fun h => by omega⟩
    · rcases h with ⟨_, rfl, rfl, rfl⟩ | ⟨k, hk, _, hne, rfl, rfl, rfl⟩
      · have := putTo_pend S at_ (secB e q b) (needN b.length)
        exact ⟨putTo_secs _ _ _ _, by omega, fun _ => by omega⟩
      · have := putTo_pend S at_ (secB e q b) (k + 1)
        exact ⟨putTo_secs _ _ _ _, by omega, fun h => absurd h hne⟩
theorem drop_getD {bss : List (List UInt8)} {k : Nat} (hk : k < bss.length) : bss.drop k = bss.getD k [] :: bss.drop (k + 1) := by
  rw [List.getD_eq_getElem?_getD, List.getElem?_eq_getElem hk]
  exact List.drop_eq_getElem_cons hk
set_option maxRecDepth 100000 in
set_option maxHeartbeats 1000000 in
theorem lwrite_spec {w0 w : World} {I : Imm} {L Ld : Own} {d : Value} {S : DS} {lb : Nat} {G : LG} (hd : DiskO d S Ld) (hst : St w0 w I ((lb, .cells (logV d G).toArray 69) :: (Ld ++ L))) {v : Value} {vs : List Value} {bss : List (List UInt8)} (hv : RdR I v vs bss) (hbs : BOk bss) (hn : 0 ≤ G.nx ∧ G.nx ≤ 16777216) (at0 : Int) (ha : 0 ≤ at0 ∧ at0 ≤ 2000) (hpn : S.pend.length ≤ 600000) :
    Calls Try.prog 39 #[.pointer (some ⟨lb, 0, none⟩), .int .i64 at0, v] w fun r w' => ∃ I' Ld' S' a er, Imm.le I I' ∧ r = .returned (.tuple #[.int .i64 a, .int .i64 er]) ∧ St w0 w' I' ((lb, .cells (logV d G).toArray 69) :: (Ld' ++ L)) ∧ DiskO d S' Ld' ∧ WrR G.s.e S at0 G.nx bss S' a er := by
  have hvl := hv.2.1
  have hbl := hbs.1
  have hok : DOk S := by obtain ⟨_, _, _, _, _, _, _, _, _, hok⟩ := hd; exact hok
  have hsl := hok.1
  refine enter Try.func39 rfl (N := 52) rfl rfl ?_
  simp only [List.zipIdx_cons, List.zipIdx_nil, List.map_cons, List.map_nil, Nat.zero_add, Nat.reduceAdd]
  have hle := Imm.le.refl I
  refine CW.seq ?_
  -- region 0
  refine CW.region ?_
  refine RW.op1 rfl (runs_assign rfl) ?_
  refine RW.op1 rfl (runs_assign rfl) ?_
  refine RW.done ?_
  refine AQ.next ?_
  refine CW.seq ?_
  refine CW.seq ?_
  -- region 1
  refine CW.region ?_
  refine RW.op1 rfl (runs_move rfl) ?_
  refine RW.op1 rfl (RdL.len Try.underlying29 rfl hv.1) ?_
  refine RW.op1 rfl (runs_move rfl) ?_
  refine RW.done ?_
  refine AQ.next ?_
  refine CW.block ?_
  -- loop 1
  refine CW.loop (Nat × DS × Int × Imm × Own) (fun x w => I.le x.2.2.2.1 ∧ St w0 w x.2.2.2.1 ((lb, .cells (logV d G).toArray 69) :: (x.2.2.2.2 ++ L)) ∧ DiskO d x.2.1 x.2.2.2.2 ∧ RdR x.2.2.2.1 v vs bss ∧ (x.1 ≤ vs.length ∧ x.2.1.pend.length ≤ S.pend.length + 255 * x.1 ∧ x.2.1.secs = S.secs ∧ 0 ≤ x.2.2.1 ∧ x.2.2.1 ≤ 2000) ∧ ∀ S' a er, WrR G.s.e x.2.1 x.2.2.1 (G.nx + (x.1 : Int)) (bss.drop x.1) S' a er → WrR G.s.e S at0 G.nx bss S' a er) (fun x => [(0, .pointer (some ⟨lb, 0, none⟩)), (1, .int .i64 x.2.2.1), (12, v), (13, .int .i64 (vs.length : Nat)), (14, .int .i64 (x.1 : Int))]) (fun x => vs.length - x.1) ⟨(0, S, at0, _, _), ⟨hle, hst, hd, hv, ⟨Nat.zero_le _, Nat.le_refl _, rfl, ha⟩, fun S' a er h => by
    rw [show G.nx + (((0 : Nat)) : Int) = G.nx by omega] at h
    exact h⟩, ⟨rfl, rfl, rfl, rfl, rfl, trivial⟩⟩ ?_
  clear hle hst hd hv
  rintro ⟨k, S1, at1, I1, Ld1⟩ w ⟨hle, hst, hd, hv, ⟨hk, hp1, hs1, ha1⟩, hrec⟩
  dsimp only at hle hst hd hv hk hp1 hs1 ha1 hrec ⊢
  refine CW.seq ?_
  -- region 2
  refine CW.region ?_
  refine RW.op1 rfl (runs_lss rfl rfl) ?_
  refine RW.done ?_
  refine AQ.next ?_
  refine CW.seq ?_
  refine CW.cond rfl (fun hc15 => ?_) (fun hc15 => ?_)
  · have hcb15 := hc15
    try simp only [decide_eq_true_eq, decide_eq_false_iff_not] at hc15
    have hk1 : k < vs.length := by omega
    have hdr := drop_getD (bss := bss) (k := k) (by omega)
    refine CW.skip ?_
    refine AQ.next ?_
    refine CW.seq ?_
    refine CW.block ?_
    refine CW.seq ?_
    -- region 3
    refine CW.region ?_
    refine RW.op1 rfl (runs_move rfl) ?_
    refine RW.op1 rfl (RdL.indexAddr Try.underlying29 ti33 (by decide) rfl rfl hv.1 (by omega)) ?_
    refine RW.op1 rfl (runs_load1 sc33 rfl (hst.cell_imm (RdR.at hv (by omega) (by omega)))) ?_
    refine RW.op1 rfl (runs_assign rfl) ?_
    refine RW.op1 rfl (runs_assign rfl) ?_
    refine RW.done ?_
    refine AQ.next ?_
    refine CW.seq ?_
    -- region 4
    refine CW.draw (FSt w0 I1 ((lb, .cells (logV d G).toArray 69) :: L)) (.q 0 (.q 1 (.q 2 (.q 3 (.q 4 (.q 5 (.q 6 (.q 7 (.q 8 (.q 9 (.q 10 (.q 11 (.q 12 (.q 13 (.q 14 (.q 15 (.q 16 (.q 17 (.l 18 (.q 19 (.q 20 (.q 21 (.q 22 (.q 23 .nil)))))))))))))))))))))))) follows (by kernel_rfl) ⟨_, Imm.le.refl _, hst.draw.sub ((List.sublist_append_right _ _).cons_cons _)⟩ ?_
    replace hst := hst.draw
    refine DRW.q rfl rfl (fun w' hF => runs_move rfl) ?_
    refine DRW.q rfl rfl (fun w' hF => runs_nilCheck rfl) ?_
    first
      | refine DRW.q rfl rfl (fun w' hF => runs_fieldAddr0 rfl Try.underlying69 rfl ti24 (by decide)) ?_
      | refine DRW.q rfl rfl (fun w' hF => runs_fieldAddr rfl Try.underlying69 rfl ti24 (by decide)) ?_
    first
      | refine DRW.q rfl rfl (FSt.load1_own sc24 rfl (k := 0) rfl rfl) ?_
      | refine DRW.q rfl rfl (FSt.load1_own sc24 rfl (k := 1) rfl rfl) ?_
      | refine DRW.q rfl rfl (FSt.load1_own sc24 rfl (k := 2) rfl rfl) ?_
    refine DRW.q rfl rfl (fun w' hF => runs_move rfl) ?_
    refine DRW.q rfl rfl (fun w' hF => runs_move rfl) ?_
    refine DRW.q rfl rfl (fun w' hF => runs_nilCheck rfl) ?_
    first
      | refine DRW.q rfl rfl (fun w' hF => runs_fieldAddr0 rfl Try.underlying69 rfl ti64 (by decide)) ?_
      | refine DRW.q rfl rfl (fun w' hF => runs_fieldAddr rfl Try.underlying69 rfl ti64 (by decide)) ?_
    first
      | refine DRW.q rfl rfl (fun w' hF => runs_fieldAddr0 rfl Try.underlying64 rfl ti3 (by decide)) ?_
      | refine DRW.q rfl rfl (fun w' hF => runs_fieldAddr rfl Try.underlying64 rfl ti3 (by decide)) ?_
    first
      | refine DRW.q rfl rfl (FSt.load1_own sc3 rfl (k := 0) rfl rfl) ?_
      | refine DRW.q rfl rfl (FSt.load1_own sc3 rfl (k := 1) rfl rfl) ?_
      | refine DRW.q rfl rfl (FSt.load1_own sc3 rfl (k := 2) rfl rfl) ?_
    refine DRW.q rfl rfl (fun w' hF => runs_move rfl) ?_
    refine DRW.q rfl rfl (fun w' hF => runs_nilCheck rfl) ?_
    first
      | refine DRW.q rfl rfl (fun w' hF => runs_fieldAddr0 rfl Try.underlying69 rfl ti3 (by decide)) ?_
      | refine DRW.q rfl rfl (fun w' hF => runs_fieldAddr rfl Try.underlying69 rfl ti3 (by decide)) ?_
    first
      | refine DRW.q rfl rfl (FSt.load1_own sc3 rfl (k := 0) rfl rfl) ?_
      | refine DRW.q rfl rfl (FSt.load1_own sc3 rfl (k := 1) rfl rfl) ?_
      | refine DRW.q rfl rfl (FSt.load1_own sc3 rfl (k := 2) rfl rfl) ?_
    refine DRW.q rfl rfl (fun w' hF => runs_move rfl) ?_
    refine DRW.q rfl rfl (fun w' hF => runs_add rfl rfl (by omega)) ?_
    refine DRW.q rfl rfl (fun w' hF => runs_buildF (cells := [_, _]) bz38 rfl rfl rfl rfl rfl) ?_
    refine DRW.q rfl rfl (fun w' hF => runs_move rfl) ?_
    refine DRW.call rfl rfl call48 rfl rfl (fwrite_spec hd (hst.perm List.perm_middle.symm) at1 G.s.e (G.nx + (k : Int)) (by unfold i64ok; omega) (hv.row (i := k) hk1) (hbs.at k) (by omega)) ?_
    rintro e w ⟨I1, Ld2, S2, nx2, er2, hI1, rfl, hstn, hd2, hfw⟩
    clear hst
    have hst := hstn
    clear hstn
    replace hst := hst.perm List.perm_middle
    have hfa := fw_any hfw
    replace hv := hv.mono hI1
    replace hle := hle.trans hI1
    refine ⟨_, rfl, FSt.of hst hI1 ((List.sublist_append_right _ _).cons_cons _), ?_⟩
    refine DRW.q rfl rfl (fun w' hF => runs_move rfl) ?_
    refine DRW.q rfl rfl (fun w' hF => runs_extract rfl rfl) ?_
    refine DRW.q rfl rfl (fun w' hF => runs_extract rfl rfl) ?_
    refine DRW.q rfl rfl (fun w' hF => runs_assign rfl) ?_
    refine DRW.q rfl rfl (fun w' hF => runs_assign rfl) ?_
    refine DRW.done ?_
    refine AQ.next ?_
    refine CW.seq ?_
    refine CW.seq ?_
    -- region 5
    refine CW.region ?_
    refine RW.op1 rfl (runs_move rfl) ?_
    refine RW.op1 rfl (runs_neI rfl rfl) ?_
    refine RW.done ?_
    refine AQ.next ?_
    refine CW.cond rfl (fun hc42 => ?_) (fun hc42 => ?_)
    · have hcb42 := hc42
      try simp only [decide_eq_true_eq, decide_eq_false_iff_not] at hc42
      skip
      refine CW.seq ?_
      -- region 6
      refine CW.region ?_
      refine RW.op1 rfl (runs_move rfl) ?_
      refine RW.op1 rfl (runs_assign rfl) ?_
      refine RW.op1 rfl (runs_assign rfl) ?_
      refine RW.done ?_
      refine AQ.next ?_
      refine CW.ret ?_
      refine AQ.past_ret ?_
      refine AQ.block_ret ?_
      refine AQ.past_ret ?_
      refine AQ.past_ret ?_
      refine AQ.block_ret ?_
      refine AQ.past_ret ?_
      refine AQ.ret2 rfl rfl rfl ?_
      exact ⟨_, Ld2, S2, 0, er2, hle, rfl, hst, hd2, hrec _ _ _ (by rw [hdr]; exact .bad hfw (by simpa using hc42))⟩
    · have hcb42 := hc42
      try simp only [decide_eq_true_eq, decide_eq_false_iff_not] at hc42
      obtain rfl : er2 = 0 := by simpa using hc42
      have hfa2 := hfa.2.2 rfl
      rw [hs1] at hfa hfa2
      refine CW.skip ?_
      refine AQ.next ?_
      -- region 7
      refine CW.region ?_
      refine RW.op1 rfl (runs_move rfl) ?_
      refine RW.op1 rfl (runs_assign rfl) ?_
      refine RW.done ?_
      refine AQ.block_normal ?_
      refine AQ.next ?_
      -- region 8
      refine CW.region ?_
      refine RW.op1 rfl (runs_add rfl rfl (by omega)) ?_
      refine RW.op1 rfl (runs_move rfl) ?_
      refine RW.done ?_
      exact AQ.again (x := (k, S1, at1, I1, Ld1)) (k + 1, S2, nx2, _, Ld2) ⟨hle, hst, hd2, hv, ⟨by dsimp only; omega, by dsimp only; omega, hfa.1, by dsimp only; omega, by dsimp only; omega⟩, fun S' a er h => hrec _ _ _ (by
        rw [hdr]
        refine .step hfw ?_
        rw [show G.nx + (k : Int) + 1 = G.nx + (((k + 1 : Nat)) : Int) by omega]
        exact h)⟩ ⟨rfl, rfl, rfl, rfl, rfl, trivial⟩ (by dsimp only; omega)
  · have hcb15 := hc15
    try simp only [decide_eq_true_eq, decide_eq_false_iff_not] at hc15
    have hde : bss.drop k = [] := List.drop_eq_nil_of_le (by omega)
    refine CW.exit ?_
    refine AQ.past_exit ?_
    refine AQ.past_exit ?_
    refine AQ.block_hit ?_
    refine AQ.next ?_
    refine CW.seq ?_
    -- region 9
    refine CW.region ?_
    refine RW.op1 rfl (runs_move rfl) ?_
    refine RW.op1 rfl (runs_move rfl) ?_
    refine RW.op1 rfl (runs_nilCheck rfl) ?_
    first
      | refine RW.op1 rfl (runs_fieldAddr0 rfl Try.underlying69 rfl ti24 (by decide)) ?_
      | refine RW.op1 rfl (runs_fieldAddr rfl Try.underlying69 rfl ti24 (by decide)) ?_
    first
      | refine RW.op1 rfl (runs_load1 sc24 rfl (hst.cell_own (k := 0) rfl rfl)) ?_
      | refine RW.op1 rfl (runs_load1 sc24 rfl (hst.cell_own (k := 1) rfl rfl)) ?_
      | refine RW.op1 rfl (runs_load1 sc24 rfl (hst.cell_own (k := 2) rfl rfl)) ?_
    refine RW.call rfl call31 rfl rfl (flush_spec hd (hst.perm List.perm_middle.symm)) ?_
    rintro e w ⟨Ld3, rfl, hstn, hd3⟩
    clear hst
    have hst := hstn
    clear hstn
    replace hst := hst.perm List.perm_middle
    refine ⟨_, rfl, ?_⟩
    refine RW.op1 rfl (runs_assign rfl) ?_
    refine RW.op1 rfl (runs_assign rfl) ?_
    refine RW.done ?_
    refine AQ.next ?_
    refine CW.ret ?_
    refine AQ.ret2 rfl rfl rfl ?_
    exact ⟨_, Ld3, _, at1, _, hle, rfl, hst, hd3, hrec _ _ _ (by rw [hde]; exact .nil)⟩
theorem flush_len : ∀ (ps : List (Int × List UInt8)) (s : List (List UInt8)), (ps.foldl (fun s p => s.set p.1.toNat p.2) s).length = s.length
  | [], s => rfl
  | p :: r, s => by
    rw [List.foldl_cons, flush_len r]
    exact List.length_set
def roomR (G : LG) : Int := beginR G.s.h + 256 - G.at_
def LG.ill (G : LG) (er : Int) : LG := { G with bad := er }
/-- How appending ends. -/
inductive ApR (S : DS) (G : LG) (b : List UInt8) : DS → LG → Int → Prop
  | may : mayL G (roomR G) [b] ≠ 0 → ApR S G b S G (mayL G (roomR G) [b])
  | bad {S' : DS} {a er : Int} : mayL G (roomR G) [b] = 0 → WrR G.s.e S G.at_ G.nx [b] S' a er → er ≠ 0 → ApR S G b S' (G.ill er) er
  | ok {S' : DS} {a : Int} : mayL G (roomR G) [b] = 0 → WrR G.s.e S G.at_ G.nx [b] S' a 0 → ApR S G b S' (G.to a (G.nx + 1)) 0
def turnS (G : LG) : Slot := ⟨G.s.n + 1, G.s.e, 1 - G.s.h, G.nx, G.s.e⟩
/-- How turning ends. -/
inductive TuR (S : DS) (G : LG) (bss : List (List UInt8)) : DS → LG → Int → Prop
  | may : mayL G 256 bss ≠ 0 → TuR S G bss S G (mayL G 256 bss)
  | full : mayL G 256 bss = 0 → (16777215 < G.s.n + 1 ∨ 16777215 < G.nx) → TuR S G bss S G 5
  | wr {S' : DS} {a er : Int} : mayL G 256 bss = 0 → ¬ (16777215 < G.s.n + 1 ∨ 16777215 < G.nx) → WrR G.s.e S (beginR (1 - G.s.h)) G.nx bss S' a er → er ≠ 0 → TuR S G bss S' (G.ill er) er
  | st {S1 : DS} {a : Int} : mayL G 256 bss = 0 → ¬ (16777215 < G.s.n + 1 ∨ 16777215 < G.nx) → WrR G.s.e S (beginR (1 - G.s.h)) G.nx bss S1 a 0 → (storeR S1 (turnS G)).2 ≠ 0 → TuR S G bss (storeR S1 (turnS G)).1 (G.ill (storeR S1 (turnS G)).2) (storeR S1 (turnS G)).2
  | ok {S1 : DS} {a : Int} : mayL G 256 bss = 0 → ¬ (16777215 < G.s.n + 1 ∨ 16777215 < G.nx) → WrR G.s.e S (beginR (1 - G.s.h)) G.nx bss S1 a 0 → (storeR S1 (turnS G)).2 = 0 → TuR S G bss (storeR S1 (turnS G)).1 ⟨turnS G, a, G.nx + (bss.length : Nat), G.bad⟩ 0
theorem wr_pend {e : Int} {S S' : DS} {at_ q a er : Int} {bss : List (List UInt8)} (h : WrR e S at_ q bss S' a er) : S'.secs.length = S.secs.length ∧ S'.pend.length ≤ S.pend.length + 255 * bss.length := by
  induction h with
  | nil =>
    rename_i S _ _
    refine ⟨?_, by have := flushR_pend S; omega⟩
    unfold flushR
    split
    · rfl
    · dsimp only
      exact flush_len _ _
  | bad h _ =>
    have := fw_any h
    exact ⟨by rw [this.1], by rw [List.length_cons]; omega⟩
  | step h _ ih =>
    have := fw_any h
    exact ⟨by rw [ih.1, this.1], by rw [List.length_cons]; omega⟩
theorem perm_in3 {α : Type} (x y : α) (A B : List α) : (x :: y :: (A ++ B)).Perm (y :: (A ++ (x :: B))) := (List.Perm.swap _ _ _).trans (List.perm_middle.symm.cons _)
set_option maxRecDepth 100000 in
set_option maxHeartbeats 1000000 in
theorem append_log {w0 w : World} {I : Imm} {L Ld : Own} {d : Value} {S : DS} {lb : Nat} {G : LG} (hd : DiskO d S Ld) (hst : St w0 w I ((lb, .cells (logV d G).toArray 69) :: (Ld ++ L))) {vb : Value} {b : List UInt8} (hb : RdB I vb b) (hbl : b.length ≤ 100000) (hh : 0 ≤ G.s.h ∧ G.s.h ≤ 1) (ha : 0 ≤ G.at_ ∧ G.at_ ≤ 1000) (hn : 0 ≤ G.nx ∧ G.nx ≤ 16777216) (hpn : S.pend.length ≤ 600000) :
    Calls Try.prog 18 #[.pointer (some ⟨lb, 0, none⟩), vb] w fun e w' => ∃ I' Ld' S' G' er, Imm.le I I' ∧ e = .returned (.int .i64 er) ∧ St w0 w' I' ((lb, .cells (logV d G').toArray 69) :: (Ld' ++ L)) ∧ DiskO d S' Ld' ∧ ApR S G b S' G' er := by
  have hbo : BOk [b] := ⟨(by show 1 ≤ 1000; decide), by simpa using hbl⟩
  refine enter Try.func18 rfl (N := 48) rfl rfl ?_
  simp only [List.zipIdx_cons, List.zipIdx_nil, List.map_cons, List.map_nil, Nat.zero_add, Nat.reduceAdd]
  have hle := Imm.le.refl I
  refine CW.seq ?_
  -- region 0
  refine CW.region ?_
  refine RW.op1 rfl (runs_assign rfl) ?_
  refine RW.done ?_
  refine AQ.next ?_
  refine CW.seq ?_
  -- region 1
  refine CW.region ?_
  refine RW.op1 rfl (runs_move rfl) ?_
  refine RW.opE rfl (runs_lit1R (xs := [vb]) Try.underlying29 ti33 (by decide) rfl rfl rfl (by simpa using hb.one) hst) ?_
  rintro u1 w ⟨I1, hI1, hstn, h1⟩
  clear hst
  have hst := hstn
  clear hstn
  replace hb := hb.mono hI1
  replace hle := hle.trans hI1
  have hv : RdR _ u1 [vb] [b] := RdR.of_all h1 rfl ⟨hb, trivial⟩
  refine RW.op1 rfl (runs_assign rfl) ?_
  refine RW.done ?_
  refine AQ.next ?_
  refine CW.seq ?_
  refine CW.seq ?_
  -- region 2
  refine CW.region ?_
  refine RW.op1 rfl (runs_move rfl) ?_
  refine RW.op1 rfl (runs_move rfl) ?_
  refine RW.call rfl call23 rfl rfl (room_spec hst hh ha) ?_
  rintro e w ⟨rfl, hstn⟩
  clear hst
  have hst := hstn
  clear hstn
  refine ⟨_, rfl, ?_⟩
  refine RW.op1 rfl (runs_move rfl) ?_
  refine RW.call rfl call38 rfl rfl (may_log hst hv hbo hn (roomR G)) ?_
  rintro e w ⟨rfl, hstn⟩
  clear hst
  have hst := hstn
  clear hstn
  refine ⟨_, rfl, ?_⟩
  refine RW.op1 rfl (runs_assign rfl) ?_
  refine RW.done ?_
  refine AQ.next ?_
  refine CW.seq ?_
  -- region 3
  refine CW.region ?_
  refine RW.op1 rfl (runs_move rfl) ?_
  refine RW.op1 rfl (runs_neI rfl rfl) ?_
  refine RW.done ?_
  refine AQ.next ?_
  refine CW.cond rfl (fun hc17 => ?_) (fun hc17 => ?_)
  · have hcb17 := hc17
    try simp only [decide_eq_true_eq, decide_eq_false_iff_not] at hc17
    skip
    refine CW.seq ?_
    -- region 4
    refine CW.region ?_
    refine RW.op1 rfl (runs_move rfl) ?_
    refine RW.op1 rfl (runs_assign rfl) ?_
    refine RW.done ?_
    refine AQ.next ?_
    refine CW.ret ?_
    refine AQ.past_ret ?_
    refine AQ.ret1 rfl rfl ?_
    exact ⟨_, Ld, S, G, _, hle, rfl, hst, hd, .may (by simpa using hc17)⟩
  · have hcb17 := hc17
    try simp only [decide_eq_true_eq, decide_eq_false_iff_not] at hc17
    have hm0 : mayL G (roomR G) [b] = 0 := by simpa using hc17
    refine CW.skip ?_
    refine AQ.next ?_
    refine CW.seq ?_
    -- region 5
    refine CW.region ?_
    refine RW.op1 rfl (runs_move rfl) ?_
    refine RW.op1 rfl (runs_move rfl) ?_
    refine RW.op1 rfl (runs_nilCheck rfl) ?_
    first
      | refine RW.op1 rfl (runs_fieldAddr0 rfl Try.underlying69 rfl ti3 (by decide)) ?_
      | refine RW.op1 rfl (runs_fieldAddr rfl Try.underlying69 rfl ti3 (by decide)) ?_
    first
      | refine RW.op1 rfl (runs_load1 sc3 rfl (hst.cell_own (k := 0) rfl rfl)) ?_
      | refine RW.op1 rfl (runs_load1 sc3 rfl (hst.cell_own (k := 1) rfl rfl)) ?_
      | refine RW.op1 rfl (runs_load1 sc3 rfl (hst.cell_own (k := 2) rfl rfl)) ?_
    refine RW.op1 rfl (runs_move rfl) ?_
    refine RW.call rfl call39 rfl rfl (lwrite_spec hd hst hv hbo hn G.at_ (by omega) hpn) ?_
    rintro e w ⟨I4, Ld1, S1, wa, we, hI4, rfl, hstn, hd1, hwr⟩
    clear hst
    have hst := hstn
    clear hstn
    replace hb := hb.mono hI4
    replace h1 := h1.mono hI4
    replace hle := hle.trans hI4
    refine ⟨_, rfl, ?_⟩
    refine RW.op1 rfl (runs_move rfl) ?_
    refine RW.op1 rfl (runs_extract rfl rfl) ?_
    refine RW.op1 rfl (runs_extract rfl rfl) ?_
    refine RW.op1 rfl (runs_assign rfl) ?_
    refine RW.op1 rfl (runs_assign rfl) ?_
    refine RW.done ?_
    refine AQ.next ?_
    refine CW.seq ?_
    refine CW.seq ?_
    -- region 6
    refine CW.region ?_
    refine RW.op1 rfl (runs_move rfl) ?_
    refine RW.op1 rfl (runs_neI rfl rfl) ?_
    refine RW.done ?_
    refine AQ.next ?_
    refine CW.cond rfl (fun hc30 => ?_) (fun hc30 => ?_)
    · have hcb30 := hc30
      try simp only [decide_eq_true_eq, decide_eq_false_iff_not] at hc30
      skip
      refine CW.seq ?_
      -- region 7
      refine CW.region ?_
      refine RW.op1 rfl (runs_move rfl) ?_
      refine RW.op1 rfl (runs_move rfl) ?_
      refine RW.op1 rfl (runs_nilCheck rfl) ?_
      first
        | refine RW.op1 rfl (runs_fieldAddr0 rfl Try.underlying69 rfl ti26 (by decide)) ?_
        | refine RW.op1 rfl (runs_fieldAddr rfl Try.underlying69 rfl ti26 (by decide)) ?_
      first
        | refine RW.opE0 (runs_store1P ti26 rfl rfl hst (k := 0) rfl rfl (NoFz.zero _) rfl) ?_
        | refine RW.opE0 (runs_store1P ti26 rfl rfl hst (k := 1) rfl rfl (NoFz.zero _) rfl) ?_
        | refine RW.opE0 (runs_store1P ti26 rfl rfl hst (k := 2) rfl rfl (NoFz.zero _) rfl) ?_
      rintro w hstn
      clear hst
      have hst := hstn
      clear hstn
      try simp only [List.set_cons_zero, List.set_cons_succ] at hst
      refine RW.done ?_
      refine AQ.next ?_
      refine CW.seq ?_
      -- region 8
      refine CW.region ?_
      refine RW.op1 rfl (runs_move rfl) ?_
      refine RW.op1 rfl (runs_assign rfl) ?_
      refine RW.done ?_
      refine AQ.next ?_
      refine CW.ret ?_
      refine AQ.past_ret ?_
      refine AQ.ret1 rfl rfl ?_
      exact ⟨_, Ld1, S1, G.ill we, we, hle, rfl, hst, hd1, .bad hm0 hwr (by simpa using hc30)⟩
    · have hcb30 := hc30
      try simp only [decide_eq_true_eq, decide_eq_false_iff_not] at hc30
      obtain rfl : we = 0 := by simpa using hc30
      refine CW.skip ?_
      refine AQ.next ?_
      refine CW.seq ?_
      -- region 9
      refine CW.region ?_
      refine RW.op1 rfl (runs_move rfl) ?_
      refine RW.op1 rfl (runs_move rfl) ?_
      refine RW.op1 rfl (runs_move rfl) ?_
      refine RW.op1 rfl (runs_move rfl) ?_
      refine RW.op1 rfl (runs_nilCheck rfl) ?_
      first
        | refine RW.op1 rfl (runs_fieldAddr0 rfl Try.underlying69 rfl ti3 (by decide)) ?_
        | refine RW.op1 rfl (runs_fieldAddr rfl Try.underlying69 rfl ti3 (by decide)) ?_
      first
        | refine RW.op1 rfl (runs_load1 sc3 rfl (hst.cell_own (k := 0) rfl rfl)) ?_
        | refine RW.op1 rfl (runs_load1 sc3 rfl (hst.cell_own (k := 1) rfl rfl)) ?_
        | refine RW.op1 rfl (runs_load1 sc3 rfl (hst.cell_own (k := 2) rfl rfl)) ?_
      refine RW.op1 rfl (runs_add rfl rfl (by omega)) ?_
      refine RW.op1 rfl (runs_nilCheck rfl) ?_
      first
        | refine RW.op1 rfl (runs_fieldAddr0 rfl Try.underlying69 rfl ti3 (by decide)) ?_
        | refine RW.op1 rfl (runs_fieldAddr rfl Try.underlying69 rfl ti3 (by decide)) ?_
      first
        | refine RW.opE0 (runs_store1P ti3 rfl rfl hst (k := 0) rfl rfl (NoFz.zero _) rfl) ?_
        | refine RW.opE0 (runs_store1P ti3 rfl rfl hst (k := 1) rfl rfl (NoFz.zero _) rfl) ?_
        | refine RW.opE0 (runs_store1P ti3 rfl rfl hst (k := 2) rfl rfl (NoFz.zero _) rfl) ?_
      rintro w hstn
      clear hst
      have hst := hstn
      clear hstn
      try simp only [List.set_cons_zero, List.set_cons_succ] at hst
      refine RW.op1 rfl (runs_nilCheck rfl) ?_
      first
        | refine RW.op1 rfl (runs_fieldAddr0 rfl Try.underlying69 rfl ti3 (by decide)) ?_
        | refine RW.op1 rfl (runs_fieldAddr rfl Try.underlying69 rfl ti3 (by decide)) ?_
      first
        | refine RW.opE0 (runs_store1P ti3 rfl rfl hst (k := 0) rfl rfl (NoFz.zero _) rfl) ?_
        | refine RW.opE0 (runs_store1P ti3 rfl rfl hst (k := 1) rfl rfl (NoFz.zero _) rfl) ?_
        | refine RW.opE0 (runs_store1P ti3 rfl rfl hst (k := 2) rfl rfl (NoFz.zero _) rfl) ?_
      rintro w hstn
      clear hst
      have hst := hstn
      clear hstn
      try simp only [List.set_cons_zero, List.set_cons_succ] at hst
      refine RW.done ?_
      refine AQ.next ?_
      refine CW.seq ?_
      -- region 10
      refine CW.region ?_
      refine RW.op1 rfl (runs_assign rfl) ?_
      refine RW.done ?_
      refine AQ.next ?_
      refine CW.ret ?_
      refine AQ.ret1 rfl rfl ?_
      exact ⟨_, Ld1, S1, G.to wa (G.nx + 1), 0, hle, rfl, hst, hd1, .ok hm0 hwr⟩
set_option maxRecDepth 100000 in
set_option maxHeartbeats 1000000 in
theorem turn_log {w0 w : World} {I : Imm} {L Ld : Own} {d : Value} {S : DS} {lb : Nat} {G : LG} (hd : DiskO d S Ld) (hst : St w0 w I ((lb, .cells (logV d G).toArray 69) :: (Ld ++ L))) {v : Value} {vs : List Value} {bss : List (List UInt8)} (hv : RdR I v vs bss) (hbs : BOk bss) (hh : 0 ≤ G.s.h ∧ G.s.h ≤ 1) (ha : 0 ≤ G.at_ ∧ G.at_ ≤ 1000) (hn : 0 ≤ G.nx ∧ G.nx ≤ 16777216) (hs : 0 ≤ G.s.n ∧ G.s.n ≤ 16777216) (hpn : S.pend.length ≤ 300000) :
    Calls Try.prog 22 #[.pointer (some ⟨lb, 0, none⟩), v] w fun e w' => ∃ I' Ld' S' G' er, Imm.le I I' ∧ e = .returned (.int .i64 er) ∧ St w0 w' I' ((lb, .cells (logV d G').toArray 69) :: (Ld' ++ L)) ∧ DiskO d S' Ld' ∧ TuR S G bss S' G' er := by
  have hbl := hbs.1
  have hvl := hv.2.1
  refine enter Try.func22 rfl (N := 91) rfl rfl ?_
  simp only [List.zipIdx_cons, List.zipIdx_nil, List.map_cons, List.map_nil, Nat.zero_add, Nat.reduceAdd]
  have hle := Imm.le.refl I
  refine CW.seq ?_
  -- region 0
  refine CW.region ?_
  refine RW.op1 rfl (runs_assign rfl) ?_
  refine RW.done ?_
  refine AQ.next ?_
  refine CW.seq ?_
  -- region 1
  refine CW.region ?_
  refine RW.op1 rfl (runs_move rfl) ?_
  refine RW.op1 rfl (runs_move rfl) ?_
  refine RW.call rfl call38 rfl rfl (may_log hst hv hbs hn 256) ?_
  rintro e w ⟨rfl, hstn⟩
  clear hst
  have hst := hstn
  clear hstn
  refine ⟨_, rfl, ?_⟩
  refine RW.op1 rfl (runs_assign rfl) ?_
  refine RW.done ?_
  refine AQ.next ?_
  refine CW.seq ?_
  refine CW.seq ?_
  -- region 2
  refine CW.region ?_
  refine RW.op1 rfl (runs_move rfl) ?_
  refine RW.op1 rfl (runs_neI rfl rfl) ?_
  refine RW.done ?_
  refine AQ.next ?_
  refine CW.cond rfl (fun hc12 => ?_) (fun hc12 => ?_)
  · have hcb12 := hc12
    try simp only [decide_eq_true_eq, decide_eq_false_iff_not] at hc12
    skip
    refine CW.seq ?_
    -- region 3
    refine CW.region ?_
    refine RW.op1 rfl (runs_move rfl) ?_
    refine RW.op1 rfl (runs_assign rfl) ?_
    refine RW.done ?_
    refine AQ.next ?_
    refine CW.ret ?_
    refine AQ.past_ret ?_
    refine AQ.ret1 rfl rfl ?_
    exact ⟨_, Ld, S, G, _, hle, rfl, hst, hd, .may (by simpa using hc12)⟩
  · have hcb12 := hc12
    try simp only [decide_eq_true_eq, decide_eq_false_iff_not] at hc12
    have hm0 : mayL G 256 bss = 0 := by simpa using hc12
    refine CW.skip ?_
    refine AQ.next ?_
    refine CW.seq ?_
    -- region 4
    refine CW.drawSt hst (.q 0 (.q 1 (.q 2 (.q 3 (.q 4 (.q 5 (.q 6 (.q 7 (.q 8 (.q 9 (.q 10 (.q 11 (.q 12 (.q 13 (.q 14 (.q 15 (.q 16 (.q 17 (.q 18 (.q 19 (.q 20 (.q 21 (.q 22 (.q 23 (.q 24 (.q 25 (.q 26 (.l 27 (.l 28 .nil))))))))))))))))))))))))))))) follows (by kernel_rfl) (fun w hst => ?_)
    refine DRW.q rfl rfl (fun w' hF => runs_move rfl) ?_
    refine DRW.q rfl rfl (fun w' hF => runs_nilCheck rfl) ?_
    first
      | refine DRW.q rfl rfl (fun w' hF => runs_fieldAddr0 rfl Try.underlying69 rfl ti64 (by decide)) ?_
      | refine DRW.q rfl rfl (fun w' hF => runs_fieldAddr rfl Try.underlying69 rfl ti64 (by decide)) ?_
    first
      | refine DRW.q rfl rfl (fun w' hF => runs_fieldAddr0 rfl Try.underlying64 rfl ti3 (by decide)) ?_
      | refine DRW.q rfl rfl (fun w' hF => runs_fieldAddr rfl Try.underlying64 rfl ti3 (by decide)) ?_
    first
      | refine DRW.q rfl rfl (FSt.load1_own sc3 rfl (k := 0) rfl rfl) ?_
      | refine DRW.q rfl rfl (FSt.load1_own sc3 rfl (k := 1) rfl rfl) ?_
      | refine DRW.q rfl rfl (FSt.load1_own sc3 rfl (k := 2) rfl rfl) ?_
    refine DRW.q rfl rfl (fun w' hF => runs_add rfl rfl (by omega)) ?_
    refine DRW.q rfl rfl (fun w' hF => runs_move rfl) ?_
    refine DRW.q rfl rfl (fun w' hF => runs_nilCheck rfl) ?_
    first
      | refine DRW.q rfl rfl (fun w' hF => runs_fieldAddr0 rfl Try.underlying69 rfl ti64 (by decide)) ?_
      | refine DRW.q rfl rfl (fun w' hF => runs_fieldAddr rfl Try.underlying69 rfl ti64 (by decide)) ?_
    first
      | refine DRW.q rfl rfl (fun w' hF => runs_fieldAddr0 rfl Try.underlying64 rfl ti3 (by decide)) ?_
      | refine DRW.q rfl rfl (fun w' hF => runs_fieldAddr rfl Try.underlying64 rfl ti3 (by decide)) ?_
    first
      | refine DRW.q rfl rfl (FSt.load1_own sc3 rfl (k := 0) rfl rfl) ?_
      | refine DRW.q rfl rfl (FSt.load1_own sc3 rfl (k := 1) rfl rfl) ?_
      | refine DRW.q rfl rfl (FSt.load1_own sc3 rfl (k := 2) rfl rfl) ?_
    refine DRW.q rfl rfl (fun w' hF => runs_move rfl) ?_
    refine DRW.q rfl rfl (fun w' hF => runs_nilCheck rfl) ?_
    first
      | refine DRW.q rfl rfl (fun w' hF => runs_fieldAddr0 rfl Try.underlying69 rfl ti64 (by decide)) ?_
      | refine DRW.q rfl rfl (fun w' hF => runs_fieldAddr rfl Try.underlying69 rfl ti64 (by decide)) ?_
    first
      | refine DRW.q rfl rfl (fun w' hF => runs_fieldAddr0 rfl Try.underlying64 rfl ti3 (by decide)) ?_
      | refine DRW.q rfl rfl (fun w' hF => runs_fieldAddr rfl Try.underlying64 rfl ti3 (by decide)) ?_
    first
      | refine DRW.q rfl rfl (FSt.load1_own sc3 rfl (k := 0) rfl rfl) ?_
      | refine DRW.q rfl rfl (FSt.load1_own sc3 rfl (k := 1) rfl rfl) ?_
      | refine DRW.q rfl rfl (FSt.load1_own sc3 rfl (k := 2) rfl rfl) ?_
    refine DRW.q rfl rfl (fun w' hF => runs_sub rfl rfl (by omega)) ?_
    refine DRW.q rfl rfl (fun w' hF => runs_move rfl) ?_
    refine DRW.q rfl rfl (fun w' hF => runs_nilCheck rfl) ?_
    first
      | refine DRW.q rfl rfl (fun w' hF => runs_fieldAddr0 rfl Try.underlying69 rfl ti3 (by decide)) ?_
      | refine DRW.q rfl rfl (fun w' hF => runs_fieldAddr rfl Try.underlying69 rfl ti3 (by decide)) ?_
    first
      | refine DRW.q rfl rfl (FSt.load1_own sc3 rfl (k := 0) rfl rfl) ?_
      | refine DRW.q rfl rfl (FSt.load1_own sc3 rfl (k := 1) rfl rfl) ?_
      | refine DRW.q rfl rfl (FSt.load1_own sc3 rfl (k := 2) rfl rfl) ?_
    refine DRW.q rfl rfl (fun w' hF => runs_move rfl) ?_
    refine DRW.q rfl rfl (fun w' hF => runs_nilCheck rfl) ?_
    first
      | refine DRW.q rfl rfl (fun w' hF => runs_fieldAddr0 rfl Try.underlying69 rfl ti64 (by decide)) ?_
      | refine DRW.q rfl rfl (fun w' hF => runs_fieldAddr rfl Try.underlying69 rfl ti64 (by decide)) ?_
    first
      | refine DRW.q rfl rfl (fun w' hF => runs_fieldAddr0 rfl Try.underlying64 rfl ti3 (by decide)) ?_
      | refine DRW.q rfl rfl (fun w' hF => runs_fieldAddr rfl Try.underlying64 rfl ti3 (by decide)) ?_
    first
      | refine DRW.q rfl rfl (FSt.load1_own sc3 rfl (k := 0) rfl rfl) ?_
      | refine DRW.q rfl rfl (FSt.load1_own sc3 rfl (k := 1) rfl rfl) ?_
      | refine DRW.q rfl rfl (FSt.load1_own sc3 rfl (k := 2) rfl rfl) ?_
    refine DRW.q rfl rfl (fun w' hF => runs_buildF (cells := [_, _, _, _, _]) bz64 rfl rfl rfl rfl rfl) ?_
    refine DRW.opE rfl rfl (runs_alloc ti64 hst) ?_
    rintro _ w ⟨b2, rfl, hstn⟩
    clear hst
    have hst := hstn
    clear hstn
    refine ⟨FSt.of hst (Imm.le.refl _) (by first | exact (List.sublist_cons_self _ _).trans (List.sublist_append_right _ _) | exact List.Sublist.refl _ | exact List.sublist_cons_self _ _ | exact List.sublist_append_right _ _ | exact (List.sublist_cons_self _ _).trans (List.sublist_cons_self _ _) | exact (List.sublist_append_right _ _).trans (List.sublist_cons_self _ _) | simp), ?_⟩
    first
      | refine DRW.opE0 rfl (runs_storeW ti64 rfl rfl hst (k := 0) rfl rfl rfl (NoFz.zero _) rfl) ?_
      | refine DRW.opE0 rfl (runs_storeP ti64 rfl rfl hst (k := 0) rfl rfl rfl (NoFz.zero _) rfl) ?_
      | refine DRW.opE0 rfl (runs_storeW ti64 rfl rfl hst (k := 1) rfl rfl rfl (NoFz.zero _) rfl) ?_
      | refine DRW.opE0 rfl (runs_storeP ti64 rfl rfl hst (k := 1) rfl rfl rfl (NoFz.zero _) rfl) ?_
      | refine DRW.opE0 rfl (runs_storeW ti64 rfl rfl hst (k := 2) rfl rfl rfl (NoFz.zero _) rfl) ?_
      | refine DRW.opE0 rfl (runs_storeP ti64 rfl rfl hst (k := 2) rfl rfl rfl (NoFz.zero _) rfl) ?_
    rintro w hstn
    clear hst
    have hst := hstn
    clear hstn
    try simp only [List.set_cons_zero, List.set_cons_succ] at hst
    refine ⟨FSt.of hst (Imm.le.refl _) (by first | exact (List.sublist_cons_self _ _).trans (List.sublist_append_right _ _) | exact List.Sublist.refl _ | exact List.sublist_cons_self _ _ | exact List.sublist_append_right _ _ | exact (List.sublist_cons_self _ _).trans (List.sublist_cons_self _ _) | exact (List.sublist_append_right _ _).trans (List.sublist_cons_self _ _) | simp), ?_⟩
    refine DRW.done ?_
    refine AQ.next ?_
    refine CW.seq ?_
    refine CW.seq ?_
    -- region 5
    refine CW.region ?_
    first
      | refine RW.op1 rfl (runs_fieldAddr0 rfl Try.underlying64 rfl ti3 (by decide)) ?_
      | refine RW.op1 rfl (runs_fieldAddr rfl Try.underlying64 rfl ti3 (by decide)) ?_
    first
      | refine RW.op1 rfl (runs_load1 sc3 rfl (hst.cell_own (k := 0) rfl rfl)) ?_
      | refine RW.op1 rfl (runs_load1 sc3 rfl (hst.cell_own (k := 1) rfl rfl)) ?_
      | refine RW.op1 rfl (runs_load1 sc3 rfl (hst.cell_own (k := 2) rfl rfl)) ?_
    refine RW.op1 rfl (runs_gtr rfl rfl) ?_
    refine RW.op1 rfl (runs_move rfl) ?_
    refine RW.split (t := 44) rfl (fun hb44 => ?_) (fun hb44 => ?_)
    · have hb44p := hb44
      try simp only [decide_eq_true_eq, decide_eq_false_iff_not] at hb44p
      refine RW.off_guard rfl rfl rfl rfl hb44 ?_
      refine RW.off_guard rfl rfl rfl rfl hb44 ?_
      refine RW.off_guard rfl rfl rfl rfl hb44 ?_
      refine RW.op1 rfl (runs_pick_true rfl hb44 rfl) ?_
      refine RW.done ?_
      refine AQ.next ?_
      skip
      refine CW.cond_true rfl ?_
      refine CW.seq ?_
      -- region 6
      refine CW.region ?_
      refine RW.op1 rfl (runs_assign rfl) ?_
      refine RW.done ?_
      refine AQ.next ?_
      refine CW.ret ?_
      refine AQ.past_ret ?_
      refine AQ.ret1 rfl rfl ?_
      exact ⟨_, Ld, S, G, 5, hle, rfl, hst.drop1, hd, .full hm0 (by omega)⟩
    · have hb44p := hb44
      try simp only [decide_eq_true_eq, decide_eq_false_iff_not] at hb44p
      refine RW.on_guard rfl rfl rfl rfl hb44 ?_
      first
        | refine RW.op1 rfl (runs_fieldAddr0 rfl Try.underlying64 rfl ti3 (by decide)) ?_
        | refine RW.op1 rfl (runs_fieldAddr rfl Try.underlying64 rfl ti3 (by decide)) ?_
      refine RW.on_guard rfl rfl rfl rfl hb44 ?_
      first
        | refine RW.op1 rfl (runs_load1 sc3 rfl (hst.cell_own (k := 0) rfl rfl)) ?_
        | refine RW.op1 rfl (runs_load1 sc3 rfl (hst.cell_own (k := 1) rfl rfl)) ?_
        | refine RW.op1 rfl (runs_load1 sc3 rfl (hst.cell_own (k := 2) rfl rfl)) ?_
      refine RW.on_guard rfl rfl rfl rfl hb44 ?_
      refine RW.op1 rfl (runs_gtr rfl rfl) ?_
      refine RW.op1 rfl (runs_pick_false rfl hb44 rfl) ?_
      refine RW.done ?_
      refine AQ.next ?_
      refine CW.cond rfl (fun hc48 => ?_) (fun hc48 => ?_)
      · have hcb48 := hc48
        try simp only [decide_eq_true_eq, decide_eq_false_iff_not] at hc48
        skip
        refine CW.seq ?_
        -- region 6
        refine CW.region ?_
        refine RW.op1 rfl (runs_assign rfl) ?_
        refine RW.done ?_
        refine AQ.next ?_
        refine CW.ret ?_
        refine AQ.past_ret ?_
        refine AQ.ret1 rfl rfl ?_
        exact ⟨_, Ld, S, G, 5, hle, rfl, hst.drop1, hd, .full hm0 (by omega)⟩
      · have hcb48 := hc48
        try simp only [decide_eq_true_eq, decide_eq_false_iff_not] at hc48
        have hno : ¬ (16777215 < G.s.n + 1 ∨ 16777215 < G.nx) := by omega
        have hbe : beginR (1 - G.s.h) = 2 + (1 - G.s.h) * 256 := rfl
        refine CW.skip ?_
        refine AQ.next ?_
        refine CW.seq ?_
        -- region 7
        refine CW.region ?_
        refine RW.op1 rfl (runs_move rfl) ?_
        first
          | refine RW.op1 rfl (runs_fieldAddr0 rfl Try.underlying64 rfl ti3 (by decide)) ?_
          | refine RW.op1 rfl (runs_fieldAddr rfl Try.underlying64 rfl ti3 (by decide)) ?_
        first
          | refine RW.op1 rfl (runs_load1 sc3 rfl (hst.cell_own (k := 0) rfl rfl)) ?_
          | refine RW.op1 rfl (runs_load1 sc3 rfl (hst.cell_own (k := 1) rfl rfl)) ?_
          | refine RW.op1 rfl (runs_load1 sc3 rfl (hst.cell_own (k := 2) rfl rfl)) ?_
        refine RW.call rfl call34 rfl rfl (begin_spec hst (1 - G.s.h) (by omega)) ?_
        rintro e w ⟨rfl, hstn⟩
        clear hst
        have hst := hstn
        clear hstn
        refine ⟨_, rfl, ?_⟩
        refine RW.op1 rfl (runs_move rfl) ?_
        refine RW.call rfl call39 rfl rfl (lwrite_spec hd (hst.perm (perm_in3 _ _ Ld L)) hv hbs hn (beginR (1 - G.s.h)) (by omega) (by omega)) ?_
        rintro e w ⟨I5, Ld1, S1, wa, we, hI5, rfl, hstn, hd1, hwr⟩
        clear hst
        have hst := hstn
        clear hstn
        replace hst := hst.perm (perm_in3 _ _ Ld1 L).symm
        have hwp := wr_pend hwr
        replace hv := hv.mono hI5
        replace hle := hle.trans hI5
        refine ⟨_, rfl, ?_⟩
        refine RW.op1 rfl (runs_move rfl) ?_
        refine RW.op1 rfl (runs_extract rfl rfl) ?_
        refine RW.op1 rfl (runs_extract rfl rfl) ?_
        refine RW.op1 rfl (runs_assign rfl) ?_
        refine RW.op1 rfl (runs_assign rfl) ?_
        refine RW.done ?_
        refine AQ.next ?_
        refine CW.seq ?_
        refine CW.seq ?_
        -- region 8
        refine CW.region ?_
        refine RW.op1 rfl (runs_move rfl) ?_
        refine RW.op1 rfl (runs_eqI rfl rfl) ?_
        refine RW.done ?_
        refine AQ.next ?_
        refine CW.cond rfl (fun hc59 => ?_) (fun hc59 => ?_)
        · have hcb59 := hc59
          try simp only [decide_eq_true_eq, decide_eq_false_iff_not] at hc59
          obtain rfl : we = 0 := hc59
          -- region 9
          refine CW.draw (FSt w0 I5 ((b2, .cells (slotV (turnS G)).toArray 64) :: (lb, .cells (logV d G).toArray 69) :: L)) (.q 0 (.q 1 (.q 2 (.q 3 (.q 4 (.l 5 (.q 6 .nil))))))) follows (by kernel_rfl) ⟨_, Imm.le.refl _, hst.draw.sub (((List.sublist_append_right _ _).cons_cons _).cons_cons _)⟩ ?_
          replace hst := hst.draw
          refine DRW.q rfl rfl (fun w' hF => runs_move rfl) ?_
          refine DRW.q rfl rfl (fun w' hF => runs_nilCheck rfl) ?_
          first
            | refine DRW.q rfl rfl (fun w' hF => runs_fieldAddr0 rfl Try.underlying69 rfl ti24 (by decide)) ?_
            | refine DRW.q rfl rfl (fun w' hF => runs_fieldAddr rfl Try.underlying69 rfl ti24 (by decide)) ?_
          first
            | refine DRW.q rfl rfl (FSt.load1_own sc24 rfl (k := 0) rfl rfl) ?_
            | refine DRW.q rfl rfl (FSt.load1_own sc24 rfl (k := 1) rfl rfl) ?_
            | refine DRW.q rfl rfl (FSt.load1_own sc24 rfl (k := 2) rfl rfl) ?_
          first
            | refine DRW.q rfl rfl (FSt.loadN (vs := [_, _, _, _, _]) ag64 ti64 rfl (k := 0) rfl rfl rfl) ?_
            | refine DRW.q rfl rfl (FSt.loadN (vs := [_, _, _, _, _]) ag64 ti64 rfl (k := 1) rfl rfl rfl) ?_
            | refine DRW.q rfl rfl (FSt.loadN (vs := [_, _, _, _, _]) ag64 ti64 rfl (k := 2) rfl rfl rfl) ?_
          refine DRW.call rfl rfl call32 rfl rfl (store_spec hd1 (hst.perm (perm_two2 _ _ Ld1 L)) (turnS G) (by unfold i64ok turnS; dsimp only; omega) (by omega)) ?_
          rintro e w ⟨I6, Ld2, hI6, rfl, hstn, hd2⟩
          clear hst
          have hst := hstn
          clear hstn
          replace hst := hst.perm (perm_two2 _ _ Ld2 L).symm
          replace hv := hv.mono hI6
          replace hle := hle.trans hI6
          refine ⟨_, rfl, FSt.of hst hI6 (((List.sublist_append_right _ _).cons_cons _).cons_cons _), ?_⟩
          refine DRW.q rfl rfl (fun w' hF => runs_assign rfl) ?_
          refine DRW.done ?_
          refine AQ.next ?_
          refine CW.seq ?_
          refine CW.seq ?_
          -- region 10
          refine CW.region ?_
          refine RW.op1 rfl (runs_move rfl) ?_
          refine RW.op1 rfl (runs_neI rfl rfl) ?_
          refine RW.done ?_
          refine AQ.next ?_
          refine CW.cond rfl (fun hc67 => ?_) (fun hc67 => ?_)
          · have hcb67 := hc67
            try simp only [decide_eq_true_eq, decide_eq_false_iff_not] at hc67
            skip
            refine CW.seq ?_
            -- region 11
            refine CW.region ?_
            refine RW.op1 rfl (runs_move rfl) ?_
            refine RW.op1 rfl (runs_move rfl) ?_
            refine RW.op1 rfl (runs_nilCheck rfl) ?_
            first
              | refine RW.op1 rfl (runs_fieldAddr0 rfl Try.underlying69 rfl ti26 (by decide)) ?_
              | refine RW.op1 rfl (runs_fieldAddr rfl Try.underlying69 rfl ti26 (by decide)) ?_
            first
              | refine RW.opE0 (runs_store1P ti26 rfl rfl hst (k := 0) rfl rfl (NoFz.zero _) rfl) ?_
              | refine RW.opE0 (runs_store1P ti26 rfl rfl hst (k := 1) rfl rfl (NoFz.zero _) rfl) ?_
              | refine RW.opE0 (runs_store1P ti26 rfl rfl hst (k := 2) rfl rfl (NoFz.zero _) rfl) ?_
            rintro w hstn
            clear hst
            have hst := hstn
            clear hstn
            try simp only [List.set_cons_zero, List.set_cons_succ] at hst
            refine RW.done ?_
            refine AQ.next ?_
            refine CW.seq ?_
            -- region 12
            refine CW.region ?_
            refine RW.op1 rfl (runs_move rfl) ?_
            refine RW.op1 rfl (runs_assign rfl) ?_
            refine RW.done ?_
            refine AQ.next ?_
            refine CW.ret ?_
            refine AQ.past_ret ?_
            refine AQ.ret1 rfl rfl ?_
            exact ⟨_, Ld2, _, G.ill (storeR S1 (turnS G)).2, _, hle, rfl, hst.drop1, hd2, .st hm0 hno hwr (by simpa using hc67)⟩
          · have hcb67 := hc67
            try simp only [decide_eq_true_eq, decide_eq_false_iff_not] at hc67
            have hz2 : (storeR S1 (turnS G)).2 = 0 := by simpa using hc67
            refine CW.skip ?_
            refine AQ.next ?_
            refine CW.seq ?_
            -- region 13
            refine CW.draw (FSt w0 I6 ((b2, .cells (slotV (turnS G)).toArray 64) :: (Ld2 ++ L))) (.q 0 (.q 1 (.q 2 (.q 3 (.q 4 (.q 5 (.q 6 (.q 7 (.q 9 (.q 10 (.l 8 (.q 11 (.q 12 (.q 13 (.l 14 (.q 15 (.q 16 (.l 17 (.q 18 (.q 19 (.l 20 .nil))))))))))))))))))))) follows (by kernel_rfl) ⟨_, Imm.le.refl _, hst.draw.sub ((List.sublist_cons_self _ _).cons_cons _)⟩ ?_
            replace hst := hst.draw
            refine DRW.q rfl rfl (fun w' hF => runs_move rfl) ?_
            refine DRW.q rfl rfl (fun w' hF => runs_move rfl) ?_
            refine DRW.q rfl rfl (fun w' hF => runs_move rfl) ?_
            first
              | refine DRW.q rfl rfl (FSt.loadN (vs := [_, _, _, _, _]) ag64 ti64 rfl (k := 0) rfl rfl rfl) ?_
              | refine DRW.q rfl rfl (FSt.loadN (vs := [_, _, _, _, _]) ag64 ti64 rfl (k := 1) rfl rfl rfl) ?_
              | refine DRW.q rfl rfl (FSt.loadN (vs := [_, _, _, _, _]) ag64 ti64 rfl (k := 2) rfl rfl rfl) ?_
            refine DRW.q rfl rfl (fun w' hF => runs_move rfl) ?_
            refine DRW.q rfl rfl (fun w' hF => runs_move rfl) ?_
            refine DRW.q rfl rfl (fun w' hF => runs_nilCheck rfl) ?_
            first
              | refine DRW.q rfl rfl (fun w' hF => runs_fieldAddr0 rfl Try.underlying69 rfl ti3 (by decide)) ?_
              | refine DRW.q rfl rfl (fun w' hF => runs_fieldAddr rfl Try.underlying69 rfl ti3 (by decide)) ?_
            refine DRW.q rfl rfl (fun w' hF => runs_move rfl) ?_
            refine DRW.q rfl rfl (fun w' hF => RdL.len Try.underlying29 rfl hv.1) ?_
            first
              | refine DRW.op1 rfl rfl (runs_load1 sc3 rfl (hst.cell_own (k := 0) rfl rfl)) (FSt.of hst (Imm.le.refl _) ((List.sublist_cons_self _ _).cons_cons _)) ?_
              | refine DRW.op1 rfl rfl (runs_load1 sc3 rfl (hst.cell_own (k := 1) rfl rfl)) (FSt.of hst (Imm.le.refl _) ((List.sublist_cons_self _ _).cons_cons _)) ?_
              | refine DRW.op1 rfl rfl (runs_load1 sc3 rfl (hst.cell_own (k := 2) rfl rfl)) (FSt.of hst (Imm.le.refl _) ((List.sublist_cons_self _ _).cons_cons _)) ?_
            refine DRW.q rfl rfl (fun w' hF => runs_add rfl rfl (by omega)) ?_
            refine DRW.q rfl rfl (fun w' hF => runs_nilCheck rfl) ?_
            first
              | refine DRW.q rfl rfl (fun w' hF => runs_fieldAddr0 rfl Try.underlying69 rfl ti64 (by decide)) ?_
              | refine DRW.q rfl rfl (fun w' hF => runs_fieldAddr rfl Try.underlying69 rfl ti64 (by decide)) ?_
            first
              | refine DRW.opE0 rfl (runs_storeW ti64 rfl rfl hst (k := 0) rfl rfl rfl (NoFz.zero _) rfl) ?_
              | refine DRW.opE0 rfl (runs_storeP ti64 rfl rfl hst (k := 0) rfl rfl rfl (NoFz.zero _) rfl) ?_
              | refine DRW.opE0 rfl (runs_storeW ti64 rfl rfl hst (k := 1) rfl rfl rfl (NoFz.zero _) rfl) ?_
              | refine DRW.opE0 rfl (runs_storeP ti64 rfl rfl hst (k := 1) rfl rfl rfl (NoFz.zero _) rfl) ?_
              | refine DRW.opE0 rfl (runs_storeW ti64 rfl rfl hst (k := 2) rfl rfl rfl (NoFz.zero _) rfl) ?_
              | refine DRW.opE0 rfl (runs_storeP ti64 rfl rfl hst (k := 2) rfl rfl rfl (NoFz.zero _) rfl) ?_
            rintro w hstn
            clear hst
            have hst := hstn
            clear hstn
            try simp only [List.set_cons_zero, List.set_cons_succ] at hst
            refine ⟨FSt.of hst (Imm.le.refl _) ((List.sublist_cons_self _ _).cons_cons _), ?_⟩
            refine DRW.q rfl rfl (fun w' hF => runs_nilCheck rfl) ?_
            first
              | refine DRW.q rfl rfl (fun w' hF => runs_fieldAddr0 rfl Try.underlying69 rfl ti3 (by decide)) ?_
              | refine DRW.q rfl rfl (fun w' hF => runs_fieldAddr rfl Try.underlying69 rfl ti3 (by decide)) ?_
            first
              | refine DRW.opE0 rfl (runs_store1P ti3 rfl rfl hst (k := 0) rfl rfl (NoFz.zero _) rfl) ?_
              | refine DRW.opE0 rfl (runs_store1P ti3 rfl rfl hst (k := 1) rfl rfl (NoFz.zero _) rfl) ?_
              | refine DRW.opE0 rfl (runs_store1P ti3 rfl rfl hst (k := 2) rfl rfl (NoFz.zero _) rfl) ?_
            rintro w hstn
            clear hst
            have hst := hstn
            clear hstn
            try simp only [List.set_cons_zero, List.set_cons_succ] at hst
            refine ⟨FSt.of hst (Imm.le.refl _) ((List.sublist_cons_self _ _).cons_cons _), ?_⟩
            refine DRW.q rfl rfl (fun w' hF => runs_nilCheck rfl) ?_
            first
              | refine DRW.q rfl rfl (fun w' hF => runs_fieldAddr0 rfl Try.underlying69 rfl ti3 (by decide)) ?_
              | refine DRW.q rfl rfl (fun w' hF => runs_fieldAddr rfl Try.underlying69 rfl ti3 (by decide)) ?_
            first
              | refine DRW.opE0 rfl (runs_store1P ti3 rfl rfl hst (k := 0) rfl rfl (NoFz.zero _) rfl) ?_
              | refine DRW.opE0 rfl (runs_store1P ti3 rfl rfl hst (k := 1) rfl rfl (NoFz.zero _) rfl) ?_
              | refine DRW.opE0 rfl (runs_store1P ti3 rfl rfl hst (k := 2) rfl rfl (NoFz.zero _) rfl) ?_
            rintro w hstn
            clear hst
            have hst := hstn
            clear hstn
            try simp only [List.set_cons_zero, List.set_cons_succ] at hst
            refine ⟨FSt.of hst (Imm.le.refl _) ((List.sublist_cons_self _ _).cons_cons _), ?_⟩
            refine DRW.done ?_
            refine AQ.next ?_
            refine CW.seq ?_
            -- region 14
            refine CW.region ?_
            refine RW.op1 rfl (runs_assign rfl) ?_
            refine RW.done ?_
            refine AQ.next ?_
            refine CW.ret ?_
            refine AQ.ret1 rfl rfl ?_
            exact ⟨_, Ld2, _, ⟨turnS G, wa, G.nx + (vs.length : Nat), G.bad⟩, 0, hle, rfl, hst.drop1, hd2, by rw [hvl]; exact .ok hm0 hno hwr hz2⟩
        · have hcb59 := hc59
          try simp only [decide_eq_true_eq, decide_eq_false_iff_not] at hc59
          skip
          refine CW.skip ?_
          refine AQ.next ?_
          refine CW.seq ?_
          refine CW.seq ?_
          -- region 10
          refine CW.region ?_
          refine RW.op1 rfl (runs_move rfl) ?_
          refine RW.op1 rfl (runs_neI rfl rfl) ?_
          refine RW.done ?_
          refine AQ.next ?_
          refine CW.cond rfl (fun hc => ?_) (fun hc => absurd hc (by simpa using hc59))
          refine CW.seq ?_
          -- region 11
          refine CW.region ?_
          refine RW.op1 rfl (runs_move rfl) ?_
          refine RW.op1 rfl (runs_move rfl) ?_
          refine RW.op1 rfl (runs_nilCheck rfl) ?_
          first
            | refine RW.op1 rfl (runs_fieldAddr0 rfl Try.underlying69 rfl ti26 (by decide)) ?_
            | refine RW.op1 rfl (runs_fieldAddr rfl Try.underlying69 rfl ti26 (by decide)) ?_
          first
            | refine RW.opE0 (runs_store1P ti26 rfl rfl hst (k := 0) rfl rfl (NoFz.zero _) rfl) ?_
            | refine RW.opE0 (runs_store1P ti26 rfl rfl hst (k := 1) rfl rfl (NoFz.zero _) rfl) ?_
            | refine RW.opE0 (runs_store1P ti26 rfl rfl hst (k := 2) rfl rfl (NoFz.zero _) rfl) ?_
          rintro w hstn
          clear hst
          have hst := hstn
          clear hstn
          try simp only [List.set_cons_zero, List.set_cons_succ] at hst
          refine RW.done ?_
          refine AQ.next ?_
          refine CW.seq ?_
          -- region 12
          refine CW.region ?_
          refine RW.op1 rfl (runs_move rfl) ?_
          refine RW.op1 rfl (runs_assign rfl) ?_
          refine RW.done ?_
          refine AQ.next ?_
          refine CW.ret ?_
          refine AQ.past_ret ?_
          refine AQ.ret1 rfl rfl ?_
          exact ⟨_, Ld1, _, G.ill we, _, hle, rfl, hst.drop1, hd1, .wr hm0 hno hwr (by simpa using hc59)⟩
def zeroB : List UInt8 := List.replicate 32 0
def zput (S : DS) (k : Nat) : DS := putTo S 0 (fun _ => zeroB) k
def zputE (S : DS) (k : Nat) : Int := putE S 0 (fun _ => zeroB) k
def slot1 : Slot := ⟨1, 1, 0, 1, 1⟩
/-- How formatting ends. -/
inductive FmR (S : DS) : DS → Int → Prop
  | len : (S.secs.length : Int) ≠ 514 → FmR S S 1
  | wr {k : Nat} : (S.secs.length : Int) = 514 → k < 514 → (∀ j, j < k → zputE S j = 0) → zputE S k ≠ 0 → FmR S (zput S (k + 1)) (zputE S k)
  | fl : (S.secs.length : Int) = 514 → (∀ j, j < 514 → zputE S j = 0) → (flushR (zput S 514)).2 ≠ 0 → FmR S (flushR (zput S 514)).1 (flushR (zput S 514)).2
  | st : (S.secs.length : Int) = 514 → (∀ j, j < 514 → zputE S j = 0) → (flushR (zput S 514)).2 = 0 → FmR S (storeR (flushR (zput S 514)).1 slot1).1 (storeR (flushR (zput S 514)).1 slot1).2
set_option maxRecDepth 100000 in
set_option maxHeartbeats 1000000 in
theorem format_log {w0 w : World} {I : Imm} {L Ld : Own} {d : Value} {S : DS} (hd : DiskO d S Ld) (hst : St w0 w I (Ld ++ L)) (hpn : S.pend.length ≤ 600000) :
    Calls Try.prog 10 #[d] w fun e w' => ∃ I' Ld' S' er, Imm.le I I' ∧ e = .returned (.int .i64 er) ∧ St w0 w' I' (Ld' ++ L) ∧ DiskO d S' Ld' ∧ FmR S S' er := by
  refine enter Try.func10 rfl (N := 30) rfl rfl ?_
  simp only [List.zipIdx_cons, List.zipIdx_nil, List.map_cons, List.map_nil, Nat.zero_add, Nat.reduceAdd]
  have hle := Imm.le.refl I
  refine CW.seq ?_
  -- region 0
  refine CW.region ?_
  refine RW.op1 rfl (runs_assign rfl) ?_
  refine RW.done ?_
  refine AQ.next ?_
  refine CW.seq ?_
  refine CW.seq ?_
  -- region 1
  refine CW.region ?_
  refine RW.op1 rfl (runs_move rfl) ?_
  refine RW.call rfl call29 rfl rfl (fits_spec hd hst) ?_
  rintro e w ⟨rfl, hstn⟩
  clear hst
  have hst := hstn
  clear hstn
  refine ⟨_, rfl, ?_⟩
  refine RW.op1 rfl (runs_not rfl) ?_
  refine RW.done ?_
  refine AQ.next ?_
  refine CW.cond rfl (fun hc8 => ?_) (fun hc8 => ?_)
  · have hcb8 := hc8
    try simp only [decide_eq_true_eq, decide_eq_false_iff_not] at hc8
    skip
    refine CW.seq ?_
    -- region 2
    refine CW.region ?_
    refine RW.op1 rfl (runs_assign rfl) ?_
    refine RW.done ?_
    refine AQ.next ?_
    refine CW.ret ?_
    refine AQ.past_ret ?_
    refine AQ.ret1 rfl rfl ?_
    exact ⟨_, Ld, S, 1, hle, rfl, hst, hd, .len (by simpa using hc8)⟩
  · have hcb8 := hc8
    try simp only [decide_eq_true_eq, decide_eq_false_iff_not] at hc8
    have hlen : (S.secs.length : Int) = 514 := by simpa using hc8
    refine CW.skip ?_
    refine AQ.next ?_
    refine CW.seq ?_
    refine CW.seq ?_
    -- region 3
    refine CW.region ?_
    refine RW.op1 rfl (runs_move rfl) ?_
    refine RW.call rfl call30 rfl rfl (len_spec hd hst) ?_
    rintro e w ⟨rfl, hstn⟩
    clear hst
    have hst := hstn
    clear hstn
    rw [hlen]
    refine ⟨_, rfl, ?_⟩
    refine RW.op1 rfl (runs_move rfl) ?_
    refine RW.done ?_
    refine AQ.next ?_
    refine CW.block ?_
    -- loop 1
    refine CW.loop (Nat × Imm × Own) (fun x w => I.le x.2.1 ∧ St w0 w x.2.1 (x.2.2 ++ L) ∧ DiskO d (zput S x.1) x.2.2 ∧ x.1 ≤ 514 ∧ ∀ j, j < x.1 → zputE S j = 0) (fun x => [(0, d), (10, .int .i64 514), (11, .int .i64 (x.1 : Int))]) (fun x => 514 - x.1) ⟨(0, _, _), ⟨hle, hst, hd, Nat.zero_le _, fun j h => absurd h (Nat.not_lt_zero _)⟩, ⟨rfl, rfl, rfl, trivial⟩⟩ ?_
    clear hle hst hd
    rintro ⟨k, I1, Ld1⟩ w ⟨hle, hst, hd, hk, hz⟩
    dsimp only at hle hst hd hk hz ⊢
    refine CW.seq ?_
    -- region 4
    refine CW.region ?_
    refine RW.op1 rfl (runs_lss rfl rfl) ?_
    refine RW.done ?_
    refine AQ.next ?_
    refine CW.seq ?_
    refine CW.cond rfl (fun hc12 => ?_) (fun hc12 => ?_)
    · have hcb12 := hc12
      try simp only [decide_eq_true_eq, decide_eq_false_iff_not] at hc12
      have hk1 : k < 514 := by omega
      have hpz := putTo_pend S 0 (fun _ => zeroB) k
      refine CW.skip ?_
      refine AQ.next ?_
      refine CW.seq ?_
      refine CW.block ?_
      refine CW.seq ?_
      -- region 5
      refine CW.region ?_
      refine RW.op1 rfl (runs_move rfl) ?_
      refine RW.op1 rfl (runs_assign rfl) ?_
      refine RW.done ?_
      refine AQ.next ?_
      refine CW.seq ?_
      -- region 6
      refine CW.region ?_
      refine RW.op1 rfl (runs_move rfl) ?_
      refine RW.op1 rfl (runs_move rfl) ?_
      refine RW.opE rfl (runs_makeSlice (n := 32) Try.underlying33 ti5 rfl hst (by omega) (by unfold maxLen; omega)) ?_
      rintro _ w ⟨b3, rfl, hstn⟩
      clear hst
      have hst := hstn
      clear hstn
      obtain ⟨IZ, hIZ, hstn, hZ⟩ := RdB.of_block (e := 5) (b := b3) (n := 32) (bs := zeroB) rfl (by rw [made_b8] at hst; exact hst) (by unfold maxLen; omega)
      clear hst
      have hst := hstn
      clear hstn
      replace hle := hle.trans hIZ
      refine RW.call rfl call12 rfl rfl (write_spec hd hst (k : Int) hZ (by show (putTo S 0 (fun _ => zeroB) k).pend.length ≤ _; omega)) ?_
      rintro e w ⟨I4, Ld2, hI4, rfl, hstn, hd2⟩
      clear hst
      have hst := hstn
      clear hstn
      have hze : zputE S k = (writeR (zput S k) (k : Int) zeroB).2 := by unfold zputE putE zput; rw [Int.zero_add]
      have hzs : zput S (k + 1) = (writeR (zput S k) (k : Int) zeroB).1 := by show (writeR _ (0 + (k : Int)) _).1 = _; rw [Int.zero_add]; rfl
      rw [← hzs] at hd2
      rw [← hze]
      replace hle := hle.trans hI4
      refine ⟨_, rfl, ?_⟩
      refine RW.op1 rfl (runs_assign rfl) ?_
      refine RW.done ?_
      refine AQ.next ?_
      refine CW.seq ?_
      -- region 7
      refine CW.region ?_
      refine RW.op1 rfl (runs_move rfl) ?_
      refine RW.op1 rfl (runs_neI rfl rfl) ?_
      refine RW.done ?_
      refine AQ.next ?_
      refine CW.cond rfl (fun hc19 => ?_) (fun hc19 => ?_)
      · have hcb19 := hc19
        try simp only [decide_eq_true_eq, decide_eq_false_iff_not] at hc19
        refine CW.seq ?_
        -- region 8
        refine CW.region ?_
        refine RW.op1 rfl (runs_move rfl) ?_
        refine RW.op1 rfl (runs_assign rfl) ?_
        refine RW.done ?_
        refine AQ.next ?_
        refine CW.ret ?_
        refine AQ.block_ret ?_
        refine AQ.past_ret ?_
        refine AQ.past_ret ?_
        refine AQ.block_ret ?_
        refine AQ.past_ret ?_
        refine AQ.ret1 rfl rfl ?_
        exact ⟨_, Ld2, _, _, hle, rfl, hst, hd2, .wr hlen hk1 hz (by simpa using hc19)⟩
      · have hcb19 := hc19
        try simp only [decide_eq_true_eq, decide_eq_false_iff_not] at hc19
        refine CW.skip ?_
        refine AQ.block_normal ?_
        refine AQ.next ?_
        -- region 9
        refine CW.region ?_
        refine RW.op1 rfl (runs_add rfl rfl (by omega)) ?_
        refine RW.op1 rfl (runs_move rfl) ?_
        refine RW.done ?_
        exact AQ.again (x := (k, I1, Ld1)) (k + 1, _, Ld2) ⟨hle, hst, hd2, by dsimp only; omega, fun j hj => by
          by_cases h : j < k
          · exact hz j h
          · obtain rfl : j = k := by dsimp only at hj; omega
            simpa using hc19⟩ ⟨rfl, rfl, rfl, trivial⟩ (by dsimp only; omega)
    · have hcb12 := hc12
      try simp only [decide_eq_true_eq, decide_eq_false_iff_not] at hc12
      obtain rfl : k = 514 := by omega
      refine CW.exit ?_
      refine AQ.past_exit ?_
      refine AQ.past_exit ?_
      refine AQ.block_hit ?_
      refine AQ.next ?_
      refine CW.seq ?_
      refine CW.seq ?_
      -- region 10
      refine CW.region ?_
      refine RW.op1 rfl (runs_move rfl) ?_
      refine RW.call rfl call31 rfl rfl (flush_spec hd hst) ?_
      rintro e w ⟨Ld3, rfl, hstn, hd3⟩
      clear hst
      have hst := hstn
      clear hstn
      refine ⟨_, rfl, ?_⟩
      refine RW.op1 rfl (runs_assign rfl) ?_
      refine RW.done ?_
      refine AQ.next ?_
      refine CW.seq ?_
      -- region 11
      refine CW.region ?_
      refine RW.op1 rfl (runs_move rfl) ?_
      refine RW.op1 rfl (runs_neI rfl rfl) ?_
      refine RW.done ?_
      refine AQ.next ?_
      refine CW.cond rfl (fun hc25 => ?_) (fun hc25 => ?_)
      · have hcb25 := hc25
        try simp only [decide_eq_true_eq, decide_eq_false_iff_not] at hc25
        refine CW.seq ?_
        -- region 12
        refine CW.region ?_
        refine RW.op1 rfl (runs_move rfl) ?_
        refine RW.op1 rfl (runs_assign rfl) ?_
        refine RW.done ?_
        refine AQ.next ?_
        refine CW.ret ?_
        refine AQ.past_ret ?_
        refine AQ.ret1 rfl rfl ?_
        exact ⟨_, Ld3, _, _, hle, rfl, hst, hd3, .fl hlen hz (by simpa using hc25)⟩
      · have hcb25 := hc25
        try simp only [decide_eq_true_eq, decide_eq_false_iff_not] at hc25
        refine CW.skip ?_
        refine AQ.next ?_
        refine CW.seq ?_
        -- region 13
        refine CW.region ?_
        refine RW.op1 rfl (runs_move rfl) ?_
        refine RW.op1 rfl (runs_buildF (cells := [_, _, _, _, _]) bz64 rfl rfl rfl rfl rfl) ?_
        refine RW.call rfl call32 rfl rfl (store_spec hd3 hst slot1 (by unfold i64ok slot1; dsimp only; omega) (by have := flushR_pend (zput S 514); have h2 := putTo_pend S 0 (fun _ => zeroB) 514; have h3 : (zput S 514).pend.length ≤ S.pend.length + 514 := h2; omega)) ?_
        rintro e w ⟨I6, Ld4, hI6, rfl, hstn, hd4⟩
        clear hst
        have hst := hstn
        clear hstn
        replace hle := hle.trans hI6
        refine ⟨_, rfl, ?_⟩
        refine RW.op1 rfl (runs_assign rfl) ?_
        refine RW.done ?_
        refine AQ.next ?_
        refine CW.ret ?_
        refine AQ.ret1 rfl rfl ?_
        exact ⟨_, Ld4, _, _, hle, rfl, hst, hd4, .st hlen hz (by simpa using hc25)⟩
end Go.Proofs.YthocicjjighbnaaX
