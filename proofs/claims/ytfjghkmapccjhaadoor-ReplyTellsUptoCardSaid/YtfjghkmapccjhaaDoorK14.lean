/- Any text as an answer, or that it is none; any answer as a text; any digits as a number. -/
import Derived.Test.YtfjghkmapccjhaaDoorT
import Derived.Test.YtfjghkmapccjhaaDoorK13
import Derived.Test.YtfjghkmapccjhaaDoorK9
namespace Go.Proofs.YtfjghkmapccjhaaDoorX
set_option linter.unusedVariables false
set_option linter.unusedSimpArgs false
open Go Go.RowKit Go.Proofs

theorem made_rows (hs : List HRow) : ∃ hl : List HL, hs = hl.map hrowL := by
  refine ⟨hs.map fun r => (r.1.toList, r.2.toList), ?_⟩
  rw [List.map_map]
  conv => lhs; rw [← List.map_id hs]
  apply List.map_congr_left
  intro r _
  show r = (strOf r.1.toList, strOf r.2.toList)
  rw [strOfE, strOfE]
theorem Made.sml {s : ByteArray} {code : Int} {hl : List HL} {body : ByteArray} (h : Made s code (hl.map hrowL) body) : SmL hl := by
  refine ⟨by have := h.few; rw [List.length_map] at this; omega, fun x hx => ?_⟩
  have h1 := h.heads (hrowL x) (List.mem_map_of_mem hx)
  have h2 : (hrowL x).1.size ≤ 20 ∧ (hrowL x).2.size ≤ 40 := by
    rcases h1 with h1 | h1
    · exact ⟨headsL_name _ _ h1, headsL_val ⟨#[]⟩ 40 (by decide) (by decide) _ h1⟩
    · rw [h1]; decide
  simp only [hrowL, strOfZ] at h2
  omega
theorem codes_rng : ∀ c ∈ codesL, 100 ≤ c ∧ c ≤ 599 := by decide
theorem printL_len {n : Nat} {hs : List HL} (h : SmL hs) (b : List UInt8) (hn : n ≤ 9223372036854775807) (h1 : 1 ≤ n) : (printL n hs b).length ≤ 2000000100 + b.length := by
  have h2 := rows_take h hs.length
  rw [List.take_length] at h2
  have h3 : (printTop n).length ≤ 33 := by
    have h4 := digits_room (n := (n : Int)) (by omega) (by omega)
    rw [Int.toNat_natCast] at h4
    unfold printTop
    simp only [List.length_append]
    show 9 + _ + 2 + 2 ≤ _
    omega
  unfold printL
  simp only [List.length_append, List.length_cons, List.length_nil]
  omega
set_option maxRecDepth 100000 in
set_option maxHeartbeats 1000000 in
theorem answer_spec {w0 w : World} {I : Imm} {L : Own} (hst : St w0 w I L) (n : Int) (hn : i64ok n) {vl : Value} {ls : List Int} (hl : RdI I vl ls) (hls : ∀ x ∈ ls, i64ok x) (hll : ls.length ≤ 9223372036854775807) (s : ByteArray) (hs : s.size ≤ 1048576) :
    Calls Tryd.prog 15 #[.int .i64 n, vl, .string s] w fun e w' => ∃ I' t, Imm.le I I' ∧ e = .returned (.string t) ∧ St w0 w' I' L ∧ t.size < 4294967281 := by
  refine enter Tryd.func15 rfl (N := 39) rfl rfl ?_
  simp only [List.zipIdx_cons, List.zipIdx_nil, List.map_cons, List.map_nil, Nat.zero_add, Nat.reduceAdd]
  have hle := Imm.le.refl I
  refine CW.seq ?_
  -- region 0
  refine CW.region ?_
  refine RW.op1 rfl (runs_assign rfl) ?_
  refine RW.done ?_
  refine AQ.next ?_
  refine CW.seq ?_
  -- region 1
  refine CW.region ?_
  refine RW.op1 rfl (runs_move rfl) ?_
  refine RW.op1 rfl (runs_move rfl) ?_
  refine RW.op1 rfl (runs_move rfl) ?_
  refine RW.call rfl call18 rfl rfl (reply_spec hst n hn hl hls hll s) ?_
  rintro e w ⟨I1, vh, code, hs1, body, hI1, rfl, hstn, hvh, hmd⟩
  clear hst
  have hst := hstn
  clear hstn
  obtain ⟨hl1, rfl⟩ := made_rows hs1
  have hsm := hmd.sml
  have hcr := codes_rng _ hmd.code
  have hbz : body.size ≤ 1048576 := hmd.body.elim (fun h => by omega) (fun h => by rw [h]; exact hs)
  replace hle := hle.trans hI1
  refine ⟨_, rfl, ?_⟩
  refine RW.call rfl call20 rfl rfl (refPrint_spec hst code (by omega) (by omega) hvh hsm body (by omega) false) ?_
  rintro e w ⟨rfl, hstn⟩
  clear hst
  have hst := hstn
  clear hstn
  have hpl := printL_len hsm body.toList (n := code.toNat) (by omega) (by omega)
  rw [size_toList] at hpl
  generalize ht : printL code.toNat hl1 body.toList = t at hpl ⊢
  have htz := strOfZ t
  refine ⟨_, rfl, ?_⟩
  refine RW.op1 rfl (runs_assign rfl) ?_
  refine RW.done ?_
  refine AQ.next ?_
  refine CW.seq ?_
  refine CW.seq ?_
  -- region 2
  refine CW.region ?_
  refine RW.op1 rfl (runs_move rfl) ?_
  refine RW.op1 rfl (runs_quo rfl rfl (by decide)) ?_
  obtain ⟨qA, hqA⟩ : ∃ q, IntKind.i64.wrap (n.tdiv 3) = q := ⟨_, rfl⟩
  have hqoA : i64ok qA := by rw [← hqA]; exact wrap_ok _
  rw [hqA]
  refine RW.call rfl call8 rfl rfl (within_spec hst (v := qA) (n := 24) hqoA (by unfold i64ok; decide)) ?_
  rintro e w ⟨rfl, hstn⟩
  clear hst
  have hst := hstn
  clear hstn
  refine ⟨_, rfl, ?_⟩
  refine RW.done ?_
  refine AQ.next ?_
  refine CW.block ?_
  refine CW.seq ?_
  -- region 3
  refine CW.region ?_
  refine RW.op1 rfl (runs_eqI rfl rfl) ?_
  refine RW.op1 rfl (runs_assign rfl) ?_
  refine RW.done ?_
  refine AQ.next ?_
  refine CW.cond rfl (fun hc16 => ?_) (fun hc16 => ?_)
  · have hcb16 := hc16
    try simp only [decide_eq_true_eq, decide_eq_false_iff_not] at hc16
    refine CW.seq ?_
    -- region 4
    refine CW.region ?_
    refine RW.op1 rfl (runs_move rfl) ?_
    refine RW.op1 rfl (runs_assign rfl) ?_
    refine RW.done ?_
    refine AQ.next ?_
    refine CW.ret ?_
    refine AQ.block_ret ?_
    refine AQ.past_ret ?_
    refine AQ.ret1 rfl rfl ?_
    exact ⟨_, s, hle, rfl, hst, by omega⟩
  · have hcb16 := hc16
    try simp only [decide_eq_true_eq, decide_eq_false_iff_not] at hc16
    refine CW.seq ?_
    -- region 5
    refine CW.region ?_
    refine RW.op1 rfl (runs_eqI rfl rfl) ?_
    refine RW.op1 rfl (runs_assign rfl) ?_
    refine RW.done ?_
    refine AQ.next ?_
    refine CW.cond rfl (fun hc19 => ?_) (fun hc19 => ?_)
    · have hcb19 := hc19
      try simp only [decide_eq_true_eq, decide_eq_false_iff_not] at hc19
      refine CW.seq ?_
      -- region 6
      refine CW.region ?_
      refine RW.op1 rfl (runs_move rfl) ?_
      refine RW.op1 rfl (runs_move rfl) ?_
      refine RW.op1 rfl (runs_move rfl) ?_
      refine RW.op1 rfl (runs_lenS Tryd.underlying9 rfl) ?_
      refine RW.op1 rfl (runs_add rfl rfl (by omega)) ?_
      refine RW.call rfl call8 rfl rfl (within_spec hst (v := n) (n := ((strOf t).size : Int) + 1) hn (by unfold i64ok; rw [strOfZ]; omega)) ?_
      rintro e w ⟨rfl, hstn⟩
      clear hst
      have hst := hstn
      clear hstn
      have hw1 := (within_range n (((strOf t).size : Int) + 1)).1
      have hw2 := (within_range n (((strOf t).size : Int) + 1)).2 (by omega)
      generalize within n (((strOf t).size : Int) + 1) = k at hw1 hw2 ⊢
      refine ⟨_, rfl, ?_⟩
      refine RW.op1 rfl (runs_sliceS_h Tryd.underlying9 rfl rfl (by omega)) ?_
      refine RW.op1 rfl (runs_assign rfl) ?_
      refine RW.done ?_
      refine AQ.next ?_
      refine CW.ret ?_
      refine AQ.block_ret ?_
      refine AQ.past_ret ?_
      refine AQ.ret1 rfl rfl ?_
      refine ⟨_, _, hle, rfl, hst, ?_⟩
      rw [ByteArray.size_extract, strOfZ]
      omega
    · have hcb19 := hc19
      try simp only [decide_eq_true_eq, decide_eq_false_iff_not] at hc19
      refine CW.seq ?_
      -- region 7
      refine CW.region ?_
      refine RW.op1 rfl (runs_eqI rfl rfl) ?_
      refine RW.op1 rfl (runs_assign rfl) ?_
      refine RW.done ?_
      refine AQ.next ?_
      refine CW.cond rfl (fun hc28 => ?_) (fun hc28 => ?_)
      · have hcb28 := hc28
        try simp only [decide_eq_true_eq, decide_eq_false_iff_not] at hc28
        refine CW.seq ?_
        -- region 8
        refine CW.region ?_
        refine RW.op1 rfl (runs_move rfl) ?_
        refine RW.op1 rfl (runs_addS rfl rfl (by show 9 + s.size ≤ _; omega)) ?_
        refine RW.op1 rfl (runs_addS rfl rfl (by rw [ByteArray.size_append]; show 9 + s.size + 4 ≤ _; omega)) ?_
        refine RW.op1 rfl (runs_assign rfl) ?_
        refine RW.done ?_
        refine AQ.next ?_
        refine CW.ret ?_
        refine AQ.block_ret ?_
        refine AQ.past_ret ?_
        refine AQ.ret1 rfl rfl ?_
        refine ⟨_, _, hle, rfl, hst, ?_⟩
        rw [ByteArray.size_append, ByteArray.size_append]
        show 9 + s.size + 4 < _
        omega
      · have hcb28 := hc28
        try simp only [decide_eq_true_eq, decide_eq_false_iff_not] at hc28
        refine CW.seq ?_
        -- region 9
        refine CW.region ?_
        refine RW.op1 rfl (runs_eqI rfl rfl) ?_
        refine RW.op1 rfl (runs_assign rfl) ?_
        refine RW.done ?_
        refine AQ.next ?_
        refine CW.cond rfl (fun hc33 => ?_) (fun hc33 => ?_)
        · have hcb33 := hc33
          try simp only [decide_eq_true_eq, decide_eq_false_iff_not] at hc33
          refine CW.seq ?_
          -- region 10
          refine CW.region ?_
          refine RW.op1 rfl (runs_move rfl) ?_
          refine RW.op1 rfl (runs_move rfl) ?_
          refine RW.op1 rfl (runs_addS rfl rfl (by rw [strOfZ]; omega)) ?_
          refine RW.op1 rfl (runs_assign rfl) ?_
          refine RW.done ?_
          refine AQ.next ?_
          refine CW.ret ?_
          refine AQ.block_ret ?_
          refine AQ.past_ret ?_
          refine AQ.ret1 rfl rfl ?_
          refine ⟨_, _, hle, rfl, hst, ?_⟩
          rw [ByteArray.size_append, strOfZ]
          omega
        · have hcb33 := hc33
          try simp only [decide_eq_true_eq, decide_eq_false_iff_not] at hc33
          refine CW.skip ?_
          refine AQ.block_normal ?_
          refine AQ.next ?_
          refine CW.seq ?_
          -- region 11
          refine CW.region ?_
          refine RW.op1 rfl (runs_move rfl) ?_
          refine RW.op1 rfl (runs_assign rfl) ?_
          refine RW.done ?_
          refine AQ.next ?_
          refine CW.ret ?_
          refine AQ.ret1 rfl rfl ?_
          refine ⟨_, _, hle, rfl, hst, ?_⟩
          rw [strOfZ]
          omega
set_option maxRecDepth 100000 in
set_option maxHeartbeats 1000000 in
theorem sameR_spec {w0 w : World} {I : Imm} {L : Own} (hst : St w0 w I L) (code : Int) {va vb : Value} {hs : List HRow} (ha : RdH I va hs) (hb : RdH I vb hs) (hlen : hs.length ≤ 1000000) (body : ByteArray) (cut : Bool) :
    Calls Tryd.prog 17 #[.agg #[.int .i64 code, va, .string body, .bool cut], .agg #[.int .i64 code, vb, .string body, .bool cut]] w fun e w' => e = .returned (.bool true) ∧ St w0 w' I L := by
  obtain ⟨hA, hcap, rfl⟩ : ∃ A c, va = .slice A hs.length c := by obtain ⟨_, _, A, c, e, _⟩ := ha; exact ⟨A, c, e⟩
  obtain ⟨hB, hcbp, rfl⟩ : ∃ A c, vb = .slice A hs.length c := by obtain ⟨_, _, A, c, e, _⟩ := hb; exact ⟨A, c, e⟩
  refine enter Tryd.func17 rfl (N := 31) rfl rfl ?_
  simp only [List.zipIdx_cons, List.zipIdx_nil, List.map_cons, List.map_nil, Nat.zero_add, Nat.reduceAdd]
  have hle := Imm.le.refl I
  refine CW.seq ?_
  -- region 0
  refine CW.region ?_
  refine RW.opE rfl (runs_box rfl hst) ?_
  rintro _ w ⟨b1, rfl, hstn⟩
  clear hst
  have hst := hstn
  clear hstn
  refine RW.opE rfl (runs_box rfl hst) ?_
  rintro _ w ⟨b2, rfl, hstn⟩
  clear hst
  have hst := hstn
  clear hstn
  refine RW.op1 rfl (runs_assign rfl) ?_
  refine RW.done ?_
  refine AQ.next ?_
  refine CW.seq ?_
  -- region 1
  refine CW.region ?_
  first
    | refine RW.op1 rfl (runs_fieldAddr0 rfl Tryd.underlying29 rfl ti3 (by decide)) ?_
    | refine RW.op1 rfl (runs_fieldAddr rfl Tryd.underlying29 rfl ti3 (by decide)) ?_
  first
    | refine RW.op1 rfl (runs_load1 sc3 rfl (hst.cell_own (k := 0) rfl rfl)) ?_
    | refine RW.op1 rfl (runs_load1 sc3 rfl (hst.cell_own (k := 1) rfl rfl)) ?_
    | refine RW.op1 rfl (runs_load1 sc3 rfl (hst.cell_own (k := 2) rfl rfl)) ?_
  first
    | refine RW.op1 rfl (runs_fieldAddr0 rfl Tryd.underlying44 rfl ti3 (by decide)) ?_
    | refine RW.op1 rfl (runs_fieldAddr rfl Tryd.underlying44 rfl ti3 (by decide)) ?_
  first
    | refine RW.op1 rfl (runs_load1 sc3 rfl (hst.cell_own (k := 0) rfl rfl)) ?_
    | refine RW.op1 rfl (runs_load1 sc3 rfl (hst.cell_own (k := 1) rfl rfl)) ?_
    | refine RW.op1 rfl (runs_load1 sc3 rfl (hst.cell_own (k := 2) rfl rfl)) ?_
  refine RW.op1 rfl (runs_eqI rfl rfl) ?_
  refine RW.op1 rfl (runs_move rfl) ?_
  have hk10 := (show decide (code = code) = true by simp)
  refine RW.on_guard rfl rfl rfl rfl hk10 ?_
  first
    | refine RW.op1 rfl (runs_fieldAddr0 rfl Tryd.underlying29 rfl ti23 (by decide)) ?_
    | refine RW.op1 rfl (runs_fieldAddr rfl Tryd.underlying29 rfl ti23 (by decide)) ?_
  refine RW.on_guard rfl rfl rfl rfl hk10 ?_
  first
    | refine RW.op1 rfl (runs_load1 sc23 rfl (hst.cell_own (k := 0) rfl rfl)) ?_
    | refine RW.op1 rfl (runs_load1 sc23 rfl (hst.cell_own (k := 1) rfl rfl)) ?_
    | refine RW.op1 rfl (runs_load1 sc23 rfl (hst.cell_own (k := 2) rfl rfl)) ?_
  refine RW.on_guard rfl rfl rfl rfl hk10 ?_
  first
    | refine RW.op1 rfl (runs_fieldAddr0 rfl Tryd.underlying44 rfl ti23 (by decide)) ?_
    | refine RW.op1 rfl (runs_fieldAddr rfl Tryd.underlying44 rfl ti23 (by decide)) ?_
  refine RW.on_guard rfl rfl rfl rfl hk10 ?_
  first
    | refine RW.op1 rfl (runs_load1 sc23 rfl (hst.cell_own (k := 0) rfl rfl)) ?_
    | refine RW.op1 rfl (runs_load1 sc23 rfl (hst.cell_own (k := 1) rfl rfl)) ?_
    | refine RW.op1 rfl (runs_load1 sc23 rfl (hst.cell_own (k := 2) rfl rfl)) ?_
  refine RW.on_guard rfl rfl rfl rfl hk10 ?_
  refine RW.call rfl call11 rfl rfl (sameH_spec hst ha hb hlen) ?_
  rintro e w ⟨rfl, hstn⟩
  clear hst
  have hst := hstn
  clear hstn
  refine ⟨_, rfl, ?_⟩
  refine RW.op1 rfl (runs_pick_true rfl hk10 rfl) ?_
  refine RW.op1 rfl (runs_move rfl) ?_
  have hk17 := (show true = true from rfl)
  refine RW.on_guard rfl rfl rfl rfl hk17 ?_
  first
    | refine RW.op1 rfl (runs_fieldAddr0 rfl Tryd.underlying29 rfl ti9 (by decide)) ?_
    | refine RW.op1 rfl (runs_fieldAddr rfl Tryd.underlying29 rfl ti9 (by decide)) ?_
  refine RW.on_guard rfl rfl rfl rfl hk17 ?_
  first
    | refine RW.op1 rfl (runs_load1 sc9 rfl (hst.cell_own (k := 0) rfl rfl)) ?_
    | refine RW.op1 rfl (runs_load1 sc9 rfl (hst.cell_own (k := 1) rfl rfl)) ?_
    | refine RW.op1 rfl (runs_load1 sc9 rfl (hst.cell_own (k := 2) rfl rfl)) ?_
  refine RW.on_guard rfl rfl rfl rfl hk17 ?_
  first
    | refine RW.op1 rfl (runs_fieldAddr0 rfl Tryd.underlying44 rfl ti9 (by decide)) ?_
    | refine RW.op1 rfl (runs_fieldAddr rfl Tryd.underlying44 rfl ti9 (by decide)) ?_
  refine RW.on_guard rfl rfl rfl rfl hk17 ?_
  first
    | refine RW.op1 rfl (runs_load1 sc9 rfl (hst.cell_own (k := 0) rfl rfl)) ?_
    | refine RW.op1 rfl (runs_load1 sc9 rfl (hst.cell_own (k := 1) rfl rfl)) ?_
    | refine RW.op1 rfl (runs_load1 sc9 rfl (hst.cell_own (k := 2) rfl rfl)) ?_
  refine RW.on_guard rfl rfl rfl rfl hk17 ?_
  refine RW.op1 rfl (runs_eqS rfl rfl) ?_
  refine RW.op1 rfl (runs_pick_true rfl hk17 rfl) ?_
  refine RW.op1 rfl (runs_move rfl) ?_
  have hk24 := (show (body.toList == body.toList) = true by simp)
  refine RW.on_guard rfl rfl rfl rfl hk24 ?_
  first
    | refine RW.op1 rfl (runs_fieldAddr0 rfl Tryd.underlying29 rfl ti4 (by decide)) ?_
    | refine RW.op1 rfl (runs_fieldAddr rfl Tryd.underlying29 rfl ti4 (by decide)) ?_
  refine RW.on_guard rfl rfl rfl rfl hk24 ?_
  first
    | refine RW.op1 rfl (runs_load1 sc4 rfl (hst.cell_own (k := 0) rfl rfl)) ?_
    | refine RW.op1 rfl (runs_load1 sc4 rfl (hst.cell_own (k := 1) rfl rfl)) ?_
    | refine RW.op1 rfl (runs_load1 sc4 rfl (hst.cell_own (k := 2) rfl rfl)) ?_
  refine RW.on_guard rfl rfl rfl rfl hk24 ?_
  first
    | refine RW.op1 rfl (runs_fieldAddr0 rfl Tryd.underlying44 rfl ti4 (by decide)) ?_
    | refine RW.op1 rfl (runs_fieldAddr rfl Tryd.underlying44 rfl ti4 (by decide)) ?_
  refine RW.on_guard rfl rfl rfl rfl hk24 ?_
  first
    | refine RW.op1 rfl (runs_load1 sc4 rfl (hst.cell_own (k := 0) rfl rfl)) ?_
    | refine RW.op1 rfl (runs_load1 sc4 rfl (hst.cell_own (k := 1) rfl rfl)) ?_
    | refine RW.op1 rfl (runs_load1 sc4 rfl (hst.cell_own (k := 2) rfl rfl)) ?_
  refine RW.on_guard rfl rfl rfl rfl hk24 ?_
  refine RW.op1 rfl (runs_eqB Tryd.underlying4 rfl rfl) ?_
  refine RW.op1 rfl (runs_pick_true rfl hk24 rfl) ?_
  refine RW.op1 rfl (runs_assign rfl) ?_
  refine RW.done ?_
  refine AQ.next ?_
  refine CW.ret ?_
  refine AQ.ret1 rfl rfl ?_
  rw [show (cut == cut) = true by cases cut <;> rfl]
  exact ⟨rfl, hst.drop1.drop1⟩
set_option maxRecDepth 100000 in
set_option maxHeartbeats 4000000 in
theorem rtells_spec {w0 w : World} {I : Imm} {L : Own} (hst : St w0 w I L) (hM : MaxK I) (hT : TabK I) (n : Int) (hn : i64ok n) {vl : Value} {ls : List Int} (hl : RdI I vl ls) (hls : ∀ x ∈ ls, i64ok x) (hll : ls.length ≤ 9223372036854775807) (s : ByteArray) (hs : s.size ≤ 1048576) (raw : Bool) :
    Calls Tryd.prog 6 #[.int .i64 n, vl, .string s, .bool raw] w fun e w' => e = .returned (.bool true) ∧ ∃ I', I.le I' ∧ St w0 w' I' L := by
  refine enter Tryd.func6 rfl (N := 91) rfl rfl ?_
  simp only [List.zipIdx_cons, List.zipIdx_nil, List.map_cons, List.map_nil, Nat.zero_add, Nat.reduceAdd]
  have hle := Imm.le.refl I
  refine CW.seq ?_
  -- region 0
  refine CW.region ?_
  refine RW.op1 rfl (runs_assign rfl) ?_
  refine RW.done ?_
  refine AQ.next ?_
  refine CW.seq ?_
  -- region 1
  refine CW.region ?_
  refine RW.op1 rfl (runs_move rfl) ?_
  refine RW.op1 rfl (runs_move rfl) ?_
  refine RW.op1 rfl (runs_move rfl) ?_
  refine RW.call rfl call15 rfl rfl (answer_spec hst n hn hl hls hll s hs) ?_
  rintro e w ⟨I1, t, hI1, rfl, hstn, htz⟩
  clear hst
  have hst := hstn
  clear hstn
  replace hM := hM.mono hI1
  replace hT := hT.mono hI1
  replace hl := hl.mono hI1
  replace hle := hle.trans hI1
  refine ⟨_, rfl, ?_⟩
  refine RW.op1 rfl (runs_assign rfl) ?_
  refine RW.done ?_
  refine AQ.next ?_
  refine CW.seq ?_
  refine CW.seq ?_
  -- region 2
  refine CW.region ?_
  refine RW.op1 rfl (runs_move rfl) ?_
  refine RW.done ?_
  refine AQ.next ?_
  refine CW.cut ByteArray (fun x w => St w0 w I1 L ∧ x.size < 4294967281) (fun x => [(0, .int .i64 n), (1, vl), (2, .string s), (9, .string x)]) ?_ ?_
  · refine CW.cond rfl (fun hc23 => ?_) (fun hc23 => ?_)
    · have hcb23 := hc23
      try simp only [decide_eq_true_eq, decide_eq_false_iff_not] at hc23
      -- region 3
      refine CW.region ?_
      refine RW.op1 rfl (runs_move rfl) ?_
      refine RW.op1 rfl (runs_assign rfl) ?_
      refine RW.done ?_
      first
        | exact AQ.meet s ⟨hst, by omega⟩ ⟨rfl, rfl, rfl, rfl, trivial⟩
        | exact AQ.meet t ⟨hst, htz⟩ ⟨rfl, rfl, rfl, rfl, trivial⟩
    · have hcb23 := hc23
      try simp only [decide_eq_true_eq, decide_eq_false_iff_not] at hc23
      refine CW.skip ?_
      first
        | exact AQ.meet s ⟨hst, by omega⟩ ⟨rfl, rfl, rfl, rfl, trivial⟩
        | exact AQ.meet t ⟨hst, htz⟩ ⟨rfl, rfl, rfl, rfl, trivial⟩
  · clear htz
    rintro t w ⟨hstn, htz⟩
    clear hst
    have hst := hstn
    clear hstn
    refine AQ.next ?_
    refine CW.seq ?_
    -- region 4
    refine CW.region ?_
    refine RW.op1 rfl (runs_move rfl) ?_
    refine RW.call rfl call9 rfl rfl (parse2_spec hst hM t htz) ?_
    rintro e w ⟨I2, pA, pc, hI2, rfl, hstn, hpv, hp8, _, _⟩
    clear hst
    have hst := hstn
    clear hstn
    unfold errR
    replace hM := hM.mono hI2
    replace hT := hT.mono hI2
    replace hl := hl.mono hI2
    replace hle := hle.trans hI2
    refine ⟨_, rfl, ?_⟩
    refine RW.op1 rfl (runs_move rfl) ?_
    refine RW.op1 rfl (runs_extract rfl rfl) ?_
    refine RW.op1 rfl (runs_extract rfl rfl) ?_
    refine RW.opE rfl (runs_alloc ti29 hst) ?_
    rintro _ w ⟨b3, rfl, hstn⟩
    clear hst
    have hst := hstn
    clear hstn
    first
      | refine RW.opE0 (runs_storeW ti29 rfl rfl hst (k := 0) rfl rfl rfl (NoFz.zero _) rfl) ?_
      | refine RW.opE0 (runs_storeP ti29 rfl rfl hst (k := 0) rfl rfl rfl (NoFz.zero _) rfl) ?_
      | refine RW.opE0 (runs_storeW ti29 rfl rfl hst (k := 1) rfl rfl rfl (NoFz.zero _) rfl) ?_
      | refine RW.opE0 (runs_storeP ti29 rfl rfl hst (k := 1) rfl rfl rfl (NoFz.zero _) rfl) ?_
      | refine RW.opE0 (runs_storeW ti29 rfl rfl hst (k := 2) rfl rfl rfl (NoFz.zero _) rfl) ?_
      | refine RW.opE0 (runs_storeP ti29 rfl rfl hst (k := 2) rfl rfl rfl (NoFz.zero _) rfl) ?_
    rintro w hstn
    clear hst
    have hst := hstn
    clear hstn
    try simp only [List.set_cons_zero, List.set_cons_succ] at hst
    refine RW.op1 rfl (runs_assign rfl) ?_
    refine RW.done ?_
    refine AQ.next ?_
    refine CW.seq ?_
    -- region 5
    refine CW.region ?_
    refine RW.op1 rfl (runs_move rfl) ?_
    refine RW.call rfl call16 rfl rfl (parseRef_spec hst t (by omega)) ?_
    rintro e w ⟨I5, qA, qc, hI5, rfl, hstn, hqv⟩
    clear hst
    have hst := hstn
    clear hstn
    generalize (parseL t.toList).isSome = p
    generalize outR t.toList = r at hpv hp8 hqv hst ⊢
    replace hM := hM.mono hI5
    replace hT := hT.mono hI5
    replace hl := hl.mono hI5
    replace hpv := hpv.mono hI5
    replace hle := hle.trans hI5
    refine ⟨_, rfl, ?_⟩
    refine RW.op1 rfl (runs_move rfl) ?_
    refine RW.op1 rfl (runs_extract rfl rfl) ?_
    refine RW.op1 rfl (runs_extract rfl rfl) ?_
    refine RW.opE rfl (runs_alloc ti44 hst) ?_
    rintro _ w ⟨b6, rfl, hstn⟩
    clear hst
    have hst := hstn
    clear hstn
    first
      | refine RW.opE0 (runs_storeW ti44 rfl rfl hst (k := 0) rfl rfl rfl (NoFz.zero _) rfl) ?_
      | refine RW.opE0 (runs_storeP ti44 rfl rfl hst (k := 0) rfl rfl rfl (NoFz.zero _) rfl) ?_
      | refine RW.opE0 (runs_storeW ti44 rfl rfl hst (k := 1) rfl rfl rfl (NoFz.zero _) rfl) ?_
      | refine RW.opE0 (runs_storeP ti44 rfl rfl hst (k := 1) rfl rfl rfl (NoFz.zero _) rfl) ?_
      | refine RW.opE0 (runs_storeW ti44 rfl rfl hst (k := 2) rfl rfl rfl (NoFz.zero _) rfl) ?_
      | refine RW.opE0 (runs_storeP ti44 rfl rfl hst (k := 2) rfl rfl rfl (NoFz.zero _) rfl) ?_
    rintro w hstn
    clear hst
    have hst := hstn
    clear hstn
    try simp only [List.set_cons_zero, List.set_cons_succ] at hst
    refine RW.op1 rfl (runs_assign rfl) ?_
    refine RW.done ?_
    refine AQ.next ?_
    refine CW.seq ?_
    refine CW.seq ?_
    -- region 6
    refine CW.region ?_
    refine RW.op1 rfl (runs_move rfl) ?_
    refine RW.op1 rfl (runs_eqI rfl rfl) ?_
    refine RW.op1 rfl (runs_move rfl) ?_
    refine RW.op1 rfl (runs_neB Tryd.underlying4 rfl rfl) ?_
    refine RW.op1 rfl (runs_move rfl) ?_
    have hk39 := (show (!(decide ((if p = true then (0 : Int) else 2) = 0) == p)) = false by cases p <;> rfl)
    refine RW.on_guard rfl rfl rfl rfl hk39 ?_
    refine RW.op1 rfl (runs_move rfl) ?_
    refine RW.on_guard rfl rfl rfl rfl hk39 ?_
    refine RW.op1 rfl (runs_not rfl) ?_
    refine RW.on_guard rfl rfl rfl rfl hk39 ?_
    refine RW.op1 rfl (runs_move rfl) ?_
    refine RW.split (t := 42) rfl (fun hb42 => ?_) (fun hb42 => ?_)
    · have hb42p := hb42
      try simp only [decide_eq_true_eq, decide_eq_false_iff_not] at hb42p
      have hp : p = false := by simpa using hb42
      refine RW.on_guard rfl rfl rfl rfl hb42 ?_
      refine RW.op1 rfl (runs_move rfl) ?_
      refine RW.on_guard rfl rfl rfl rfl hb42 ?_
      refine RW.op1 rfl (runs_neI rfl rfl) ?_
      refine RW.on_guard rfl rfl rfl rfl hk39 ?_
      refine RW.op1 rfl (runs_pick_true rfl hb42 rfl) ?_
      refine RW.op1 rfl (runs_pick_false rfl hk39 rfl) ?_
      refine RW.op1 rfl (runs_move rfl) ?_
      have hk47 := (show decide ((if p = true then (0 : Int) else 2) ≠ 2) = false by rw [hp]; rfl)
      refine RW.on_guard rfl rfl rfl rfl hk47 ?_
      first
        | refine RW.op1 rfl (runs_loadN (vs := [_, _, _, _]) ag29 ti29 rfl hst (k := 0) rfl rfl rfl) ?_
        | refine RW.op1 rfl (runs_loadN (vs := [_, _, _, _]) ag29 ti29 rfl hst (k := 1) rfl rfl rfl) ?_
        | refine RW.op1 rfl (runs_loadN (vs := [_, _, _, _]) ag29 ti29 rfl hst (k := 2) rfl rfl rfl) ?_
      refine RW.on_guard rfl rfl rfl rfl hk47 ?_
      first
        | refine RW.op1 rfl (runs_loadN (vs := [_, _, _, _]) ag44 ti44 rfl hst (k := 0) rfl rfl rfl) ?_
        | refine RW.op1 rfl (runs_loadN (vs := [_, _, _, _]) ag44 ti44 rfl hst (k := 1) rfl rfl rfl) ?_
        | refine RW.op1 rfl (runs_loadN (vs := [_, _, _, _]) ag44 ti44 rfl hst (k := 2) rfl rfl rfl) ?_
      refine RW.on_guard rfl rfl rfl rfl hk47 ?_
      refine RW.call rfl call17 rfl rfl (sameR_spec hst r.code hpv hqv (by rw [List.length_map]; omega) (strOf r.body) r.cut) ?_
      rintro e w ⟨rfl, hstn⟩
      clear hst
      have hst := hstn
      clear hstn
      refine ⟨_, rfl, ?_⟩
      refine RW.on_guard rfl rfl rfl rfl hk47 ?_
      refine RW.op1 rfl (runs_not rfl) ?_
      refine RW.op1 rfl (runs_pick_false rfl hk47 rfl) ?_
      refine RW.done ?_
      refine AQ.next ?_
      refine CW.cond rfl (fun hc => absurd hc (by decide)) (fun hc => ?_)
      refine CW.skip ?_
      refine AQ.next ?_
      refine CW.seq ?_
      -- region 8
      refine CW.region ?_
      refine RW.op1 rfl (runs_move rfl) ?_
      refine RW.op1 rfl (runs_move rfl) ?_
      refine RW.op1 rfl (runs_move rfl) ?_
      refine RW.call rfl call18 rfl rfl (reply_spec hst n hn hl hls hll s) ?_
      rintro e w ⟨I9, vh, code, hs1, body, hI9, rfl, hstn, hvh, hmd⟩
      clear hst
      have hst := hstn
      clear hstn
      obtain ⟨hl1, rfl⟩ := made_rows hs1
      have hsm := hmd.sml
      have hcr := codes_rng _ hmd.code
      have hbz : body.size ≤ 1048576 := hmd.body.elim (fun h => by omega) (fun h => by rw [h]; exact hs)
      obtain ⟨hA, hcap, rfl⟩ : ∃ A c, vh = .slice A (hl1.map hrowL).length c := by obtain ⟨_, _, A, c, e, _⟩ := hvh; exact ⟨A, c, e⟩
      replace hM := hM.mono hI9
      replace hT := hT.mono hI9
      replace hl := hl.mono hI9
      replace hpv := hpv.mono hI9
      replace hqv := hqv.mono hI9
      replace hle := hle.trans hI9
      refine ⟨_, rfl, ?_⟩
      refine RW.opE rfl (runs_alloc ti44 hst) ?_
      rintro _ w ⟨b10, rfl, hstn⟩
      clear hst
      have hst := hstn
      clear hstn
      first
        | refine RW.opE0 (runs_storeW ti44 rfl rfl hst (k := 0) rfl rfl rfl (NoFz.zero _) rfl) ?_
        | refine RW.opE0 (runs_storeP ti44 rfl rfl hst (k := 0) rfl rfl rfl (NoFz.zero _) rfl) ?_
        | refine RW.opE0 (runs_storeW ti44 rfl rfl hst (k := 1) rfl rfl rfl (NoFz.zero _) rfl) ?_
        | refine RW.opE0 (runs_storeP ti44 rfl rfl hst (k := 1) rfl rfl rfl (NoFz.zero _) rfl) ?_
        | refine RW.opE0 (runs_storeW ti44 rfl rfl hst (k := 2) rfl rfl rfl (NoFz.zero _) rfl) ?_
        | refine RW.opE0 (runs_storeP ti44 rfl rfl hst (k := 2) rfl rfl rfl (NoFz.zero _) rfl) ?_
      rintro w hstn
      clear hst
      have hst := hstn
      clear hstn
      try simp only [List.set_cons_zero, List.set_cons_succ] at hst
      refine RW.done ?_
      refine AQ.next ?_
      refine CW.seq ?_
      -- region 9
      refine CW.region ?_
      refine RW.op1 rfl (runs_move rfl) ?_
      refine RW.call rfl call14 rfl rfl (number_spec hst s (by omega)) ?_
      rintro e w ⟨rfl, hstn⟩
      clear hst
      have hst := hstn
      clear hstn
      refine ⟨_, rfl, ?_⟩
      refine RW.op1 rfl (runs_move rfl) ?_
      refine RW.op1 rfl (runs_extract rfl rfl) ?_
      refine RW.op1 rfl (runs_extract rfl rfl) ?_
      refine RW.op1 rfl (runs_assign rfl) ?_
      refine RW.op1 rfl (runs_assign rfl) ?_
      refine RW.done ?_
      refine AQ.next ?_
      refine CW.seq ?_
      -- region 10
      refine CW.region ?_
      refine RW.op1 rfl (runs_move rfl) ?_
      refine RW.call rfl call19 rfl rfl (figures_spec hst s (by omega)) ?_
      rintro e w ⟨rfl, hstn⟩
      clear hst
      have hst := hstn
      clear hstn
      generalize numberR s.toList = m
      refine ⟨_, rfl, ?_⟩
      refine RW.op1 rfl (runs_move rfl) ?_
      refine RW.op1 rfl (runs_extract rfl rfl) ?_
      refine RW.op1 rfl (runs_extract rfl rfl) ?_
      refine RW.op1 rfl (runs_assign rfl) ?_
      refine RW.op1 rfl (runs_assign rfl) ?_
      refine RW.done ?_
      refine AQ.next ?_
      refine CW.seq ?_
      -- region 11
      refine CW.drawSt hst (.q 0 (.q 1 (.q 2 (.q 3 (.q 4 (.q 5 (.q 6 (.q 7 (.q 8 (.q 9 (.q 10 (.q 11 (.q 12 (.q 13 (.q 14 (.q 15 (.q 17 (.l 16 (.l 18 (.q 19 (.q 20 (.q 21 (.l 22 (.q 23 (.q 24 .nil))))))))))))))))))))))))) follows (by kernel_rfl) (fun w hst => ?_)
      refine DRW.q rfl rfl (fun w' hF => runs_move rfl) ?_
      refine DRW.q rfl rfl (fun w' hF => runs_move rfl) ?_
      refine DRW.q rfl rfl (fun w' hF => runs_eqI rfl rfl) ?_
      refine DRW.q rfl rfl (fun w' hF => runs_move rfl) ?_
      have hk70 := (show decide (m.getD 0 = m.getD 0) = true by simp)
      refine DRW.q_on rfl rfl rfl rfl hk70 rfl (fun w' hF => runs_move rfl) ?_
      refine DRW.q_on rfl rfl rfl rfl hk70 rfl (fun w' hF => runs_move rfl) ?_
      refine DRW.q_on rfl rfl rfl rfl hk70 rfl (fun w' hF => runs_eqB Tryd.underlying4 rfl rfl) ?_
      refine DRW.q rfl rfl (fun w' hF => runs_pick_true rfl hk70 rfl) ?_
      refine DRW.q rfl rfl (fun w' hF => runs_move rfl) ?_
      have hk75 := (show (m.isSome == m.isSome) = true by simp)
      first
        | refine DRW.q_on rfl rfl rfl rfl hk75 rfl (fun w' hF => runs_fieldAddr0 rfl Tryd.underlying44 rfl ti3 (by decide)) ?_
        | refine DRW.q_on rfl rfl rfl rfl hk75 rfl (fun w' hF => runs_fieldAddr rfl Tryd.underlying44 rfl ti3 (by decide)) ?_
      first
        | refine DRW.q_on rfl rfl rfl rfl hk75 rfl (FSt.load1_own sc3 rfl (k := 0) rfl rfl) ?_
        | refine DRW.q_on rfl rfl rfl rfl hk75 rfl (FSt.load1_own sc3 rfl (k := 1) rfl rfl) ?_
        | refine DRW.q_on rfl rfl rfl rfl hk75 rfl (FSt.load1_own sc3 rfl (k := 2) rfl rfl) ?_
      first
        | refine DRW.q_on rfl rfl rfl rfl hk75 rfl (fun w' hF => runs_fieldAddr0 rfl Tryd.underlying44 rfl ti23 (by decide)) ?_
        | refine DRW.q_on rfl rfl rfl rfl hk75 rfl (fun w' hF => runs_fieldAddr rfl Tryd.underlying44 rfl ti23 (by decide)) ?_
      first
        | refine DRW.q_on rfl rfl rfl rfl hk75 rfl (FSt.load1_own sc23 rfl (k := 0) rfl rfl) ?_
        | refine DRW.q_on rfl rfl rfl rfl hk75 rfl (FSt.load1_own sc23 rfl (k := 1) rfl rfl) ?_
        | refine DRW.q_on rfl rfl rfl rfl hk75 rfl (FSt.load1_own sc23 rfl (k := 2) rfl rfl) ?_
      first
        | refine DRW.q_on rfl rfl rfl rfl hk75 rfl (fun w' hF => runs_fieldAddr0 rfl Tryd.underlying44 rfl ti9 (by decide)) ?_
        | refine DRW.q_on rfl rfl rfl rfl hk75 rfl (fun w' hF => runs_fieldAddr rfl Tryd.underlying44 rfl ti9 (by decide)) ?_
      first
        | refine DRW.q_on rfl rfl rfl rfl hk75 rfl (FSt.load1_own sc9 rfl (k := 0) rfl rfl) ?_
        | refine DRW.q_on rfl rfl rfl rfl hk75 rfl (FSt.load1_own sc9 rfl (k := 1) rfl rfl) ?_
        | refine DRW.q_on rfl rfl rfl rfl hk75 rfl (FSt.load1_own sc9 rfl (k := 2) rfl rfl) ?_
      refine DRW.q_on rfl rfl rfl rfl hk75 rfl (fun w' hF => runs_buildF (cells := [_, _, _, _]) bz29 rfl rfl rfl rfl rfl) ?_
      first
        | refine DRW.q_on rfl rfl rfl rfl hk75 rfl (FSt.loadN (vs := [_, _, _, _]) ag44 ti44 rfl (k := 0) rfl rfl rfl) ?_
        | refine DRW.q_on rfl rfl rfl rfl hk75 rfl (FSt.loadN (vs := [_, _, _, _]) ag44 ti44 rfl (k := 1) rfl rfl rfl) ?_
        | refine DRW.q_on rfl rfl rfl rfl hk75 rfl (FSt.loadN (vs := [_, _, _, _]) ag44 ti44 rfl (k := 2) rfl rfl rfl) ?_
      refine DRW.call_on rfl rfl rfl rfl hk75 rfl call13 rfl rfl (print_spec hst hT code (by omega) (by omega) hvh hsm body (by omega) false) ?_
      rintro e w ⟨rfl, hstn⟩
      clear hst
      have hst := hstn
      clear hstn
      refine ⟨_, rfl, FSt.of hst (Imm.le.refl _) (by first | exact (List.sublist_cons_self _ _).trans (List.sublist_append_right _ _) | exact List.Sublist.refl _ | exact List.sublist_cons_self _ _ | exact List.sublist_append_right _ _ | exact (List.sublist_cons_self _ _).trans (List.sublist_cons_self _ _) | exact (List.sublist_append_right _ _).trans (List.sublist_cons_self _ _) | simp), ?_⟩
      refine DRW.call_on rfl rfl rfl rfl hk75 rfl call20 rfl rfl (refPrint_spec hst code (by omega) (by omega) hvh hsm body (by omega) false) ?_
      rintro e w ⟨rfl, hstn⟩
      clear hst
      have hst := hstn
      clear hstn
      refine ⟨_, rfl, FSt.of hst (Imm.le.refl _) (by first | exact (List.sublist_cons_self _ _).trans (List.sublist_append_right _ _) | exact List.Sublist.refl _ | exact List.sublist_cons_self _ _ | exact List.sublist_append_right _ _ | exact (List.sublist_cons_self _ _).trans (List.sublist_cons_self _ _) | exact (List.sublist_append_right _ _).trans (List.sublist_cons_self _ _) | simp), ?_⟩
      refine DRW.q_on rfl rfl rfl rfl hk75 rfl (fun w' hF => runs_eqS rfl rfl) ?_
      refine DRW.q rfl rfl (fun w' hF => runs_pick_true rfl hk75 rfl) ?_
      refine DRW.q rfl rfl (fun w' hF => runs_move rfl) ?_
      have hk88 := (show ((strOf (printL code.toNat hl1 body.toList)).toList == (strOf (printL code.toNat hl1 body.toList)).toList) = true by simp)
      refine DRW.call_on rfl rfl rfl rfl hk88 rfl call10 rfl rfl (wakes09_spec hst hM) ?_
      rintro e w ⟨rfl, I16, hI16, hstn⟩
      clear hst
      have hst := hstn
      clear hstn
      replace hM := hM.mono hI16
      replace hT := hT.mono hI16
      replace hl := hl.mono hI16
      replace hpv := hpv.mono hI16
      replace hqv := hqv.mono hI16
      replace hvh := hvh.mono hI16
      replace hle := hle.trans hI16
      refine ⟨_, rfl, FSt.of hst hI16 (by first | exact (List.sublist_cons_self _ _).trans (List.sublist_append_right _ _) | exact List.Sublist.refl _ | exact List.sublist_cons_self _ _ | exact List.sublist_append_right _ _ | exact (List.sublist_cons_self _ _).trans (List.sublist_cons_self _ _) | exact (List.sublist_append_right _ _).trans (List.sublist_cons_self _ _) | simp), ?_⟩
      refine DRW.q rfl rfl (fun w' hF => runs_pick_true rfl hk88 rfl) ?_
      refine DRW.q rfl rfl (fun w' hF => runs_assign rfl) ?_
      refine DRW.done ?_
      refine AQ.next ?_
      refine CW.ret ?_
      refine AQ.ret1 rfl rfl ?_
      exact ⟨rfl, _, hle, hst.drop1.drop1.drop1⟩
    · have hb42p := hb42
      try simp only [decide_eq_true_eq, decide_eq_false_iff_not] at hb42p
      have hp : p = true := by simpa using hb42
      refine RW.off_guard rfl rfl rfl rfl hb42 ?_
      refine RW.off_guard rfl rfl rfl rfl hb42 ?_
      refine RW.on_guard rfl rfl rfl rfl hk39 ?_
      refine RW.op1 rfl (runs_pick_false rfl hb42 rfl) ?_
      refine RW.op1 rfl (runs_pick_false rfl hk39 rfl) ?_
      refine RW.op1 rfl (runs_move rfl) ?_
      refine RW.on_guard rfl rfl rfl rfl rfl ?_
      first
        | refine RW.op1 rfl (runs_loadN (vs := [_, _, _, _]) ag29 ti29 rfl hst (k := 0) rfl rfl rfl) ?_
        | refine RW.op1 rfl (runs_loadN (vs := [_, _, _, _]) ag29 ti29 rfl hst (k := 1) rfl rfl rfl) ?_
        | refine RW.op1 rfl (runs_loadN (vs := [_, _, _, _]) ag29 ti29 rfl hst (k := 2) rfl rfl rfl) ?_
      refine RW.on_guard rfl rfl rfl rfl rfl ?_
      first
        | refine RW.op1 rfl (runs_loadN (vs := [_, _, _, _]) ag44 ti44 rfl hst (k := 0) rfl rfl rfl) ?_
        | refine RW.op1 rfl (runs_loadN (vs := [_, _, _, _]) ag44 ti44 rfl hst (k := 1) rfl rfl rfl) ?_
        | refine RW.op1 rfl (runs_loadN (vs := [_, _, _, _]) ag44 ti44 rfl hst (k := 2) rfl rfl rfl) ?_
      refine RW.on_guard rfl rfl rfl rfl rfl ?_
      refine RW.call rfl call17 rfl rfl (sameR_spec hst r.code hpv hqv (by rw [List.length_map]; omega) (strOf r.body) r.cut) ?_
      rintro e w ⟨rfl, hstn⟩
      clear hst
      have hst := hstn
      clear hstn
      refine ⟨_, rfl, ?_⟩
      refine RW.on_guard rfl rfl rfl rfl rfl ?_
      refine RW.op1 rfl (runs_not rfl) ?_
      refine RW.op1 rfl (runs_pick_false rfl rfl rfl) ?_
      refine RW.done ?_
      refine AQ.next ?_
      refine CW.cond rfl (fun hc => absurd hc (by decide)) (fun hc => ?_)
      refine CW.skip ?_
      refine AQ.next ?_
      refine CW.seq ?_
      -- region 8
      refine CW.region ?_
      refine RW.op1 rfl (runs_move rfl) ?_
      refine RW.op1 rfl (runs_move rfl) ?_
      refine RW.op1 rfl (runs_move rfl) ?_
      refine RW.call rfl call18 rfl rfl (reply_spec hst n hn hl hls hll s) ?_
      rintro e w ⟨I18, vh, code, hs1, body, hI18, rfl, hstn, hvh, hmd⟩
      clear hst
      have hst := hstn
      clear hstn
      obtain ⟨hl1, rfl⟩ := made_rows hs1
      have hsm := hmd.sml
      have hcr := codes_rng _ hmd.code
      have hbz : body.size ≤ 1048576 := hmd.body.elim (fun h => by omega) (fun h => by rw [h]; exact hs)
      obtain ⟨hA, hcap, rfl⟩ : ∃ A c, vh = .slice A (hl1.map hrowL).length c := by obtain ⟨_, _, A, c, e, _⟩ := hvh; exact ⟨A, c, e⟩
      replace hM := hM.mono hI18
      replace hT := hT.mono hI18
      replace hl := hl.mono hI18
      replace hpv := hpv.mono hI18
      replace hqv := hqv.mono hI18
      replace hle := hle.trans hI18
      refine ⟨_, rfl, ?_⟩
      refine RW.opE rfl (runs_alloc ti44 hst) ?_
      rintro _ w ⟨b19, rfl, hstn⟩
      clear hst
      have hst := hstn
      clear hstn
      first
        | refine RW.opE0 (runs_storeW ti44 rfl rfl hst (k := 0) rfl rfl rfl (NoFz.zero _) rfl) ?_
        | refine RW.opE0 (runs_storeP ti44 rfl rfl hst (k := 0) rfl rfl rfl (NoFz.zero _) rfl) ?_
        | refine RW.opE0 (runs_storeW ti44 rfl rfl hst (k := 1) rfl rfl rfl (NoFz.zero _) rfl) ?_
        | refine RW.opE0 (runs_storeP ti44 rfl rfl hst (k := 1) rfl rfl rfl (NoFz.zero _) rfl) ?_
        | refine RW.opE0 (runs_storeW ti44 rfl rfl hst (k := 2) rfl rfl rfl (NoFz.zero _) rfl) ?_
        | refine RW.opE0 (runs_storeP ti44 rfl rfl hst (k := 2) rfl rfl rfl (NoFz.zero _) rfl) ?_
      rintro w hstn
      clear hst
      have hst := hstn
      clear hstn
      try simp only [List.set_cons_zero, List.set_cons_succ] at hst
      refine RW.done ?_
      refine AQ.next ?_
      refine CW.seq ?_
      -- region 9
      refine CW.region ?_
      refine RW.op1 rfl (runs_move rfl) ?_
      refine RW.call rfl call14 rfl rfl (number_spec hst s (by omega)) ?_
      rintro e w ⟨rfl, hstn⟩
      clear hst
      have hst := hstn
      clear hstn
      refine ⟨_, rfl, ?_⟩
      refine RW.op1 rfl (runs_move rfl) ?_
      refine RW.op1 rfl (runs_extract rfl rfl) ?_
      refine RW.op1 rfl (runs_extract rfl rfl) ?_
      refine RW.op1 rfl (runs_assign rfl) ?_
      refine RW.op1 rfl (runs_assign rfl) ?_
      refine RW.done ?_
      refine AQ.next ?_
      refine CW.seq ?_
      -- region 10
      refine CW.region ?_
      refine RW.op1 rfl (runs_move rfl) ?_
      refine RW.call rfl call19 rfl rfl (figures_spec hst s (by omega)) ?_
      rintro e w ⟨rfl, hstn⟩
      clear hst
      have hst := hstn
      clear hstn
      generalize numberR s.toList = m
      refine ⟨_, rfl, ?_⟩
      refine RW.op1 rfl (runs_move rfl) ?_
      refine RW.op1 rfl (runs_extract rfl rfl) ?_
      refine RW.op1 rfl (runs_extract rfl rfl) ?_
      refine RW.op1 rfl (runs_assign rfl) ?_
      refine RW.op1 rfl (runs_assign rfl) ?_
      refine RW.done ?_
      refine AQ.next ?_
      refine CW.seq ?_
      -- region 11
      refine CW.drawSt hst (.q 0 (.q 1 (.q 2 (.q 3 (.q 4 (.q 5 (.q 6 (.q 7 (.q 8 (.q 9 (.q 10 (.q 11 (.q 12 (.q 13 (.q 14 (.q 15 (.q 17 (.l 16 (.l 18 (.q 19 (.q 20 (.q 21 (.l 22 (.q 23 (.q 24 .nil))))))))))))))))))))))))) follows (by kernel_rfl) (fun w hst => ?_)
      refine DRW.q rfl rfl (fun w' hF => runs_move rfl) ?_
      refine DRW.q rfl rfl (fun w' hF => runs_move rfl) ?_
      refine DRW.q rfl rfl (fun w' hF => runs_eqI rfl rfl) ?_
      refine DRW.q rfl rfl (fun w' hF => runs_move rfl) ?_
      have hk70 := (show decide (m.getD 0 = m.getD 0) = true by simp)
      refine DRW.q_on rfl rfl rfl rfl hk70 rfl (fun w' hF => runs_move rfl) ?_
      refine DRW.q_on rfl rfl rfl rfl hk70 rfl (fun w' hF => runs_move rfl) ?_
      refine DRW.q_on rfl rfl rfl rfl hk70 rfl (fun w' hF => runs_eqB Tryd.underlying4 rfl rfl) ?_
      refine DRW.q rfl rfl (fun w' hF => runs_pick_true rfl hk70 rfl) ?_
      refine DRW.q rfl rfl (fun w' hF => runs_move rfl) ?_
      have hk75 := (show (m.isSome == m.isSome) = true by simp)
      first
        | refine DRW.q_on rfl rfl rfl rfl hk75 rfl (fun w' hF => runs_fieldAddr0 rfl Tryd.underlying44 rfl ti3 (by decide)) ?_
        | refine DRW.q_on rfl rfl rfl rfl hk75 rfl (fun w' hF => runs_fieldAddr rfl Tryd.underlying44 rfl ti3 (by decide)) ?_
      first
        | refine DRW.q_on rfl rfl rfl rfl hk75 rfl (FSt.load1_own sc3 rfl (k := 0) rfl rfl) ?_
        | refine DRW.q_on rfl rfl rfl rfl hk75 rfl (FSt.load1_own sc3 rfl (k := 1) rfl rfl) ?_
        | refine DRW.q_on rfl rfl rfl rfl hk75 rfl (FSt.load1_own sc3 rfl (k := 2) rfl rfl) ?_
      first
        | refine DRW.q_on rfl rfl rfl rfl hk75 rfl (fun w' hF => runs_fieldAddr0 rfl Tryd.underlying44 rfl ti23 (by decide)) ?_
        | refine DRW.q_on rfl rfl rfl rfl hk75 rfl (fun w' hF => runs_fieldAddr rfl Tryd.underlying44 rfl ti23 (by decide)) ?_
      first
        | refine DRW.q_on rfl rfl rfl rfl hk75 rfl (FSt.load1_own sc23 rfl (k := 0) rfl rfl) ?_
        | refine DRW.q_on rfl rfl rfl rfl hk75 rfl (FSt.load1_own sc23 rfl (k := 1) rfl rfl) ?_
        | refine DRW.q_on rfl rfl rfl rfl hk75 rfl (FSt.load1_own sc23 rfl (k := 2) rfl rfl) ?_
      first
        | refine DRW.q_on rfl rfl rfl rfl hk75 rfl (fun w' hF => runs_fieldAddr0 rfl Tryd.underlying44 rfl ti9 (by decide)) ?_
        | refine DRW.q_on rfl rfl rfl rfl hk75 rfl (fun w' hF => runs_fieldAddr rfl Tryd.underlying44 rfl ti9 (by decide)) ?_
      first
        | refine DRW.q_on rfl rfl rfl rfl hk75 rfl (FSt.load1_own sc9 rfl (k := 0) rfl rfl) ?_
        | refine DRW.q_on rfl rfl rfl rfl hk75 rfl (FSt.load1_own sc9 rfl (k := 1) rfl rfl) ?_
        | refine DRW.q_on rfl rfl rfl rfl hk75 rfl (FSt.load1_own sc9 rfl (k := 2) rfl rfl) ?_
      refine DRW.q_on rfl rfl rfl rfl hk75 rfl (fun w' hF => runs_buildF (cells := [_, _, _, _]) bz29 rfl rfl rfl rfl rfl) ?_
      first
        | refine DRW.q_on rfl rfl rfl rfl hk75 rfl (FSt.loadN (vs := [_, _, _, _]) ag44 ti44 rfl (k := 0) rfl rfl rfl) ?_
        | refine DRW.q_on rfl rfl rfl rfl hk75 rfl (FSt.loadN (vs := [_, _, _, _]) ag44 ti44 rfl (k := 1) rfl rfl rfl) ?_
        | refine DRW.q_on rfl rfl rfl rfl hk75 rfl (FSt.loadN (vs := [_, _, _, _]) ag44 ti44 rfl (k := 2) rfl rfl rfl) ?_
      refine DRW.call_on rfl rfl rfl rfl hk75 rfl call13 rfl rfl (print_spec hst hT code (by omega) (by omega) hvh hsm body (by omega) false) ?_
      rintro e w ⟨rfl, hstn⟩
      clear hst
      have hst := hstn
      clear hstn
      refine ⟨_, rfl, FSt.of hst (Imm.le.refl _) (by first | exact (List.sublist_cons_self _ _).trans (List.sublist_append_right _ _) | exact List.Sublist.refl _ | exact List.sublist_cons_self _ _ | exact List.sublist_append_right _ _ | exact (List.sublist_cons_self _ _).trans (List.sublist_cons_self _ _) | exact (List.sublist_append_right _ _).trans (List.sublist_cons_self _ _) | simp), ?_⟩
      refine DRW.call_on rfl rfl rfl rfl hk75 rfl call20 rfl rfl (refPrint_spec hst code (by omega) (by omega) hvh hsm body (by omega) false) ?_
      rintro e w ⟨rfl, hstn⟩
      clear hst
      have hst := hstn
      clear hstn
      refine ⟨_, rfl, FSt.of hst (Imm.le.refl _) (by first | exact (List.sublist_cons_self _ _).trans (List.sublist_append_right _ _) | exact List.Sublist.refl _ | exact List.sublist_cons_self _ _ | exact List.sublist_append_right _ _ | exact (List.sublist_cons_self _ _).trans (List.sublist_cons_self _ _) | exact (List.sublist_append_right _ _).trans (List.sublist_cons_self _ _) | simp), ?_⟩
      refine DRW.q_on rfl rfl rfl rfl hk75 rfl (fun w' hF => runs_eqS rfl rfl) ?_
      refine DRW.q rfl rfl (fun w' hF => runs_pick_true rfl hk75 rfl) ?_
      refine DRW.q rfl rfl (fun w' hF => runs_move rfl) ?_
      have hk88 := (show ((strOf (printL code.toNat hl1 body.toList)).toList == (strOf (printL code.toNat hl1 body.toList)).toList) = true by simp)
      refine DRW.call_on rfl rfl rfl rfl hk88 rfl call10 rfl rfl (wakes09_spec hst hM) ?_
      rintro e w ⟨rfl, I25, hI25, hstn⟩
      clear hst
      have hst := hstn
      clear hstn
      replace hM := hM.mono hI25
      replace hT := hT.mono hI25
      replace hl := hl.mono hI25
      replace hpv := hpv.mono hI25
      replace hqv := hqv.mono hI25
      replace hvh := hvh.mono hI25
      replace hle := hle.trans hI25
      refine ⟨_, rfl, FSt.of hst hI25 (by first | exact (List.sublist_cons_self _ _).trans (List.sublist_append_right _ _) | exact List.Sublist.refl _ | exact List.sublist_cons_self _ _ | exact List.sublist_append_right _ _ | exact (List.sublist_cons_self _ _).trans (List.sublist_cons_self _ _) | exact (List.sublist_append_right _ _).trans (List.sublist_cons_self _ _) | simp), ?_⟩
      refine DRW.q rfl rfl (fun w' hF => runs_pick_true rfl hk88 rfl) ?_
      refine DRW.q rfl rfl (fun w' hF => runs_assign rfl) ?_
      refine DRW.done ?_
      refine AQ.next ?_
      refine CW.ret ?_
      refine AQ.ret1 rfl rfl ?_
      exact ⟨rfl, _, hle, hst.drop1.drop1.drop1⟩
end Go.Proofs.YtfjghkmapccjhaaDoorX
