/- Sums, sizes, records, by the program and by the document: the walk. -/
import Derived.Test.YtcbndkllppmmmaaT
import Derived.Test.YtcbndkllppmmmaaR7
namespace Go.Proofs.YtcbndkllppmmmaaX
set_option linter.unusedVariables false
set_option linter.unusedSimpArgs false
open Go Go.RowKit Go.Proofs

theorem runs_compl32 {P : Program} {l : Env} {ty : TypeId} {w : World} {t : TypeId} {x : Operand} {n : Nat} (hx : ev l x = some (.int .u32 (n : Int))) (h : n < 4294967296) : Runs P (.unOp .xor t x) ty l w (.value (.int .u32 ((n ^^^ onesN : Nat) : Int))) w :=
  .of (fun ρ => Op.unary .xor (ρ x)) (fun _ _ _ _ _ => rfl) fun ρ hρ => by
    have e : bitop .xor .u32 ((onesN : Nat) : Int) (n : Int) = ((n ^^^ onesN : Nat) : Int) := by rw [xor32 (by decide) h, Nat.xor_comm]
    rw [← e]
    simp only [hρ x _ hx]
    rfl
set_option maxRecDepth 100000 in
set_option maxHeartbeats 1000000 in
theorem refSum_spec {w0 w : World} {I : Imm} {L : Own} (hst : St w0 w I L) {v : Value} {bs : List UInt8} (hv : RdB I v bs) (hb : bs.length ≤ 140737488355328) :
    Calls Try.prog 23 #[v] w fun e w' => e = .returned (.int .u32 ((sumN bs : Nat) : Int)) ∧ St w0 w' I L := by
  refine enter Try.func23 rfl (N := 32) rfl rfl ?_
  simp only [List.zipIdx_cons, List.zipIdx_nil, List.map_cons, List.map_nil, Nat.zero_add, Nat.reduceAdd]
  have hle := Imm.le.refl I
  refine CW.seq ?_
  -- region 0
  refine CW.region ?_
  refine RW.op1 rfl (runs_assign rfl) ?_
  refine RW.done ?_
  refine AQ.next ?_
  refine CW.seq ?_
  -- region 1
  refine CW.region ?_
  refine RW.op1 rfl (runs_assign rfl) ?_
  refine RW.done ?_
  refine AQ.next ?_
  refine CW.seq ?_
  refine CW.seq ?_
  -- region 2
  refine CW.region ?_
  refine RW.op1 rfl (runs_move rfl) ?_
  refine RW.op1 rfl (RdL.len Try.underlying24 rfl hv) ?_
  refine RW.op1 rfl (runs_move rfl) ?_
  refine RW.done ?_
  refine AQ.next ?_
  refine CW.block ?_
  -- loop 1
  refine CW.loop Nat (fun k w => St w0 w I L ∧ k ≤ bs.length) (fun k => [(3, .int .u32 ((crcTo bs k : Nat) : Int)), (7, v), (8, .int .i64 (bs.length : Nat)), (9, .int .i64 (k : Int))]) (fun k => bs.length - k) ⟨0, ⟨hst, Nat.zero_le _⟩, ⟨rfl, rfl, rfl, rfl, trivial⟩⟩ ?_
  rintro k w ⟨hstn, hk⟩
  clear hst
  have hst := hstn
  clear hstn
  refine CW.seq ?_
  -- region 3
  refine CW.region ?_
  refine RW.op1 rfl (runs_lss rfl rfl) ?_
  refine RW.done ?_
  refine AQ.next ?_
  refine CW.seq ?_
  refine CW.cond rfl (fun hc10 => ?_) (fun hc10 => ?_)
  · have hcb10 := hc10
    try simp only [decide_eq_true_eq, decide_eq_false_iff_not] at hc10
    have hk1 : k < bs.length := by omega
    obtain ⟨c, hc⟩ : ∃ c, bs[k] = c := ⟨_, rfl⟩
    have hcl := c.toNat_lt
    have hx := crcTo_lt bs k
    have hnx := crcTo_next hk1
    rw [hc] at hnx
    have hbat : bat bs (k : Int) = (c.toNat : Int) := by unfold bat; simp [hk1, hc]
    refine CW.skip ?_
    refine AQ.next ?_
    refine CW.seq ?_
    refine CW.block ?_
    refine CW.seq ?_
    -- region 4
    refine CW.region ?_
    refine RW.op1 rfl (RdL.indexAddr Try.underlying24 ti5 (by decide) rfl rfl hv (by omega)) ?_
    refine RW.op1 rfl (runs_load1 sc5 rfl (hst.cell_imm (RdB.at hv (by omega) (by omega)))) ?_
    rw [hbat]
    refine RW.op1 rfl (runs_assign rfl) ?_
    refine RW.done ?_
    refine AQ.next ?_
    refine CW.seq ?_
    -- region 5
    refine CW.region ?_
    refine RW.op1 rfl (runs_move rfl) ?_
    refine RW.op1 rfl (runs_move rfl) ?_
    refine RW.op1 rfl (runs_convI (by rw [Try.underlying5]; rfl) Try.underlying22 rfl) ?_
    rw [show IntKind.u32.wrap (c.toNat : Int) = (c.toNat : Int) by rw [IntKind.wrap_u32]; omega]
    refine RW.op1 rfl (runs_xor rfl rfl) ?_
    rw [xor32 hx (show c.toNat < 4294967296 by omega)]
    refine RW.op1 rfl (runs_assign rfl) ?_
    refine RW.done ?_
    refine AQ.next ?_
    refine CW.seq ?_
    -- region 6
    refine CW.region ?_
    refine RW.op1 rfl (runs_assign rfl) ?_
    refine RW.done ?_
    refine AQ.next ?_
    refine CW.block ?_
    -- loop 2
    refine CW.loop Nat (fun j w => St w0 w I L ∧ j ≤ 8) (fun j => [(3, .int .u32 ((crcBits j (crcTo bs k ^^^ c.toNat) : Nat) : Int)), (7, v), (8, .int .i64 (bs.length : Nat)), (9, .int .i64 (k : Int)), (6, .int .i64 (j : Int))]) (fun j => 8 - j) ⟨0, ⟨hst, Nat.zero_le _⟩, ⟨rfl, rfl, rfl, rfl, rfl, trivial⟩⟩ ?_
    rintro j w ⟨hstn, hj⟩
    clear hst
    have hst := hstn
    clear hstn
    refine CW.seq ?_
    refine CW.seq ?_
    -- region 7
    refine CW.region ?_
    refine RW.op1 rfl (runs_move rfl) ?_
    refine RW.op1 rfl (runs_lss rfl rfl) ?_
    refine RW.done ?_
    refine AQ.next ?_
    refine CW.cond rfl (fun hc18 => ?_) (fun hc18 => ?_)
    · have hcb18 := hc18
      try simp only [decide_eq_true_eq, decide_eq_false_iff_not] at hc18
      have hj1 : j < 8 := by omega
      have hbl := crcBits_lt j (xor_lt32 hx (show c.toNat < 4294967296 by omega))
      have hsc := crcBits_succ j (crcTo bs k ^^^ c.toNat)
      generalize crcBits j (crcTo bs k ^^^ c.toNat) = y at hbl hsc ⊢
      refine CW.skip ?_
      refine AQ.next ?_
      refine CW.seq ?_
      refine CW.block ?_
      refine CW.seq ?_
      -- region 9
      refine CW.region ?_
      refine RW.op1 rfl (runs_move rfl) ?_
      refine RW.op1 rfl (runs_and rfl rfl) ?_
      rw [and1_32 hbl]
      refine RW.op1 rfl (runs_eqI rfl rfl) ?_
      refine RW.done ?_
      refine AQ.next ?_
      refine CW.cond rfl (fun hc23 => ?_) (fun hc23 => ?_)
      · have hcb23 := hc23
        try simp only [decide_eq_true_eq, decide_eq_false_iff_not] at hc23
        have hcb : crcBit y = (y / 2) ^^^ polyN := by unfold crcBit; rw [if_pos (by omega)]
        -- region 10
        refine CW.region ?_
        refine RW.op1 rfl (runs_move rfl) ?_
        refine RW.op1 rfl (runs_shrE (n := 1) rfl rfl (by decide)) ?_
        rw [show ((y : Nat) : Int) / 2 ^ 1 = ((y / 2 : Nat) : Int) from rfl]
        refine RW.op1 rfl (runs_xor (b := ((polyN : Nat) : Int)) rfl rfl) ?_
        rw [xor32 (by omega) (by decide)]
        refine RW.op1 rfl (runs_assign rfl) ?_
        refine RW.done ?_
        refine AQ.block_normal ?_
        refine AQ.next ?_
        -- region 8
        refine CW.region ?_
        refine RW.op1 rfl (runs_move rfl) ?_
        refine RW.op1 rfl (runs_add rfl rfl (by omega)) ?_
        refine RW.op1 rfl (runs_assign rfl) ?_
        refine RW.done ?_
        exact AQ.again (x := j) (j + 1) ⟨hst, by omega⟩ ⟨by rw [hsc, hcb]; rfl, rfl, rfl, rfl, rfl, trivial⟩ (by omega)
      · have hcb23 := hc23
        try simp only [decide_eq_true_eq, decide_eq_false_iff_not] at hc23
        have hcb : crcBit y = y / 2 := by unfold crcBit; rw [if_neg (by omega)]
        -- region 11
        refine CW.region ?_
        refine RW.op1 rfl (runs_move rfl) ?_
        refine RW.op1 rfl (runs_shrE (n := 1) rfl rfl (by decide)) ?_
        rw [show ((y : Nat) : Int) / 2 ^ 1 = ((y / 2 : Nat) : Int) from rfl]
        refine RW.op1 rfl (runs_assign rfl) ?_
        refine RW.done ?_
        refine AQ.block_normal ?_
        refine AQ.next ?_
        -- region 8
        refine CW.region ?_
        refine RW.op1 rfl (runs_move rfl) ?_
        refine RW.op1 rfl (runs_add rfl rfl (by omega)) ?_
        refine RW.op1 rfl (runs_assign rfl) ?_
        refine RW.done ?_
        exact AQ.again (x := j) (j + 1) ⟨hst, by omega⟩ ⟨by rw [hsc, hcb]; rfl, rfl, rfl, rfl, rfl, trivial⟩ (by omega)
    · have hcb18 := hc18
      try simp only [decide_eq_true_eq, decide_eq_false_iff_not] at hc18
      skip
      refine CW.exit ?_
      refine AQ.past_exit ?_
      refine AQ.past_exit ?_
      refine AQ.block_hit ?_
      refine AQ.block_normal ?_
      refine AQ.next ?_
      -- region 12
      refine CW.region ?_
      refine RW.op1 rfl (runs_add rfl rfl (by omega)) ?_
      refine RW.op1 rfl (runs_move rfl) ?_
      refine RW.done ?_
      have hj8 : j = 8 := by omega
      subst hj8
      exact AQ.again (x := k) (k + 1) ⟨hst, by omega⟩ ⟨by rw [hnx]; rfl, rfl, rfl, rfl, trivial⟩ (by omega)
  · have hcb10 := hc10
    try simp only [decide_eq_true_eq, decide_eq_false_iff_not] at hc10
    skip
    refine CW.exit ?_
    refine AQ.past_exit ?_
    refine AQ.past_exit ?_
    refine AQ.block_hit ?_
    refine AQ.next ?_
    refine CW.seq ?_
    -- region 13
    refine CW.region ?_
    have hke := crcTo_end (bs := bs) (k := k) (by omega)
    have hx := crcTo_lt bs k
    rw [hke] at hx ⊢
    refine RW.op1 rfl (runs_move rfl) ?_
    refine RW.op1 rfl (runs_compl32 rfl hx) ?_
    refine RW.op1 rfl (runs_assign rfl) ?_
    refine RW.done ?_
    refine AQ.next ?_
    refine CW.ret ?_
    refine AQ.ret1 rfl rfl ?_
    exact ⟨rfl, hst⟩
set_option maxRecDepth 100000 in
set_option maxHeartbeats 1000000 in
theorem refNeed_spec {w0 w : World} {I : Imm} {L : Own} (hst : St w0 w I L) {v : Value} {bs : List UInt8} (hv : RdB I v bs) (hb : bs.length ≤ 140737488355328) :
    Calls Try.prog 24 #[v] w fun e w' => e = .returned (.int .i64 ((needN bs.length : Nat) : Int)) ∧ St w0 w' I L := by
  refine enter Try.func24 rfl (N := 9) rfl rfl ?_
  simp only [List.zipIdx_cons, List.zipIdx_nil, List.map_cons, List.map_nil, Nat.zero_add, Nat.reduceAdd]
  have hle := Imm.le.refl I
  refine CW.seq ?_
  -- region 0
  refine CW.region ?_
  refine RW.op1 rfl (runs_assign rfl) ?_
  refine RW.done ?_
  refine AQ.next ?_
  refine CW.seq ?_
  -- region 1
  refine CW.region ?_
  refine RW.op1 rfl (runs_move rfl) ?_
  refine RW.op1 rfl (RdL.len Try.underlying24 rfl hv) ?_
  refine RW.op1 rfl (runs_add rfl rfl (by omega)) ?_
  refine RW.op1 rfl (runs_add rfl rfl (by omega)) ?_
  refine RW.op1 rfl (runs_sub rfl rfl (by omega)) ?_
  refine RW.op1 rfl (runs_quo rfl rfl (by omega)) ?_
  rw [show (((bs.length : Nat) : Int) + 4 + 19 - 1).tdiv 19 = ((needN bs.length : Nat) : Int) from by
    rw [show (((bs.length : Nat) : Int) + 4 + 19 - 1) = ((bs.length + 22 : Nat) : Int) by omega]
    rfl, wrap_i64 (by unfold needN; omega)]
  refine RW.op1 rfl (runs_assign rfl) ?_
  refine RW.done ?_
  refine AQ.next ?_
  refine CW.ret ?_
  refine AQ.ret1 rfl rfl ?_
  exact ⟨rfl, hst⟩
set_option maxRecDepth 100000 in
set_option maxHeartbeats 1000000 in
theorem refFramed_spec {w0 w : World} {I : Imm} {L : Own} (hst : St w0 w I L) {v : Value} {bs : List UInt8} (hv : RdB I v bs) (hb : bs.length ≤ 1000000) :
    Calls Try.prog 26 #[v] w fun e w' => ∃ I' v', Imm.le I I' ∧ e = .returned v' ∧ St w0 w' I' L ∧ RdB I' v' (wholeB bs) := by
  refine enter Try.func26 rfl (N := 20) rfl rfl ?_
  simp only [List.zipIdx_cons, List.zipIdx_nil, List.map_cons, List.map_nil, Nat.zero_add, Nat.reduceAdd]
  have hle := Imm.le.refl I
  refine CW.seq ?_
  -- region 0
  refine CW.region ?_
  refine RW.op1 rfl (runs_assign rfl) ?_
  refine RW.done ?_
  refine AQ.next ?_
  refine CW.seq ?_
  -- region 1
  refine CW.region ?_
  refine RW.op1 rfl (runs_move rfl) ?_
  refine RW.call rfl call23 rfl rfl (refSum_spec hst hv (by omega)) ?_
  rintro e w ⟨rfl, hstn⟩
  clear hst
  have hst := hstn
  clear hstn
  have hsl := sumN_lt bs
  refine ⟨_, rfl, ?_⟩
  refine RW.op1 rfl (runs_assign rfl) ?_
  refine RW.done ?_
  refine AQ.next ?_
  refine CW.seq ?_
  -- region 2
  refine CW.region ?_
  refine RW.op1 rfl (runs_move rfl) ?_
  refine RW.op1 rfl (runs_shrE (n := 24) rfl rfl (by decide)) ?_
  refine RW.op1 rfl (runs_convB (by rw [Try.underlying22]; rfl) Try.underlying5 rfl) ?_
  refine RW.op1 rfl (runs_move rfl) ?_
  refine RW.op1 rfl (runs_shrE (n := 16) rfl rfl (by decide)) ?_
  refine RW.op1 rfl (runs_convB (by rw [Try.underlying22]; rfl) Try.underlying5 rfl) ?_
  refine RW.op1 rfl (runs_move rfl) ?_
  refine RW.op1 rfl (runs_shrE (n := 8) rfl rfl (by decide)) ?_
  refine RW.op1 rfl (runs_convB (by rw [Try.underlying22]; rfl) Try.underlying5 rfl) ?_
  refine RW.op1 rfl (runs_move rfl) ?_
  refine RW.op1 rfl (runs_convB (by rw [Try.underlying22]; rfl) Try.underlying5 rfl) ?_
  refine RW.opE rfl (runs_lit1 (xs := (sumB bs).map b8) Try.underlying24 ti5 (by decide) rfl rfl rfl (b8_one _) hst) ?_
  rintro u2 w ⟨Lv2, hstn, hg2⟩
  clear hst
  have hst := hstn
  clear hstn
  have hgS : GrowB 5 u2 (sumB bs) Lv2 := hg2
  refine RW.op1 rfl (runs_move rfl) ?_
  refine RW.opE rfl (runs_appendB Try.underlying24 ti5 rfl rfl hst hgS hv (by show 4 + bs.length ≤ _; omega)) ?_
  rintro u3 w ⟨Lv3, hstn, hg3⟩
  clear hst
  have hst := hstn
  clear hstn
  obtain ⟨J3, hJ3, hstn, h3⟩ := Grow.freeze hg3 hst
  clear hst
  have hst := hstn
  clear hstn
  replace hle := hle.trans hJ3
  try simp only [List.nil_append] at h3
  have hW := h3
  refine RW.op1 rfl (runs_assign rfl) ?_
  refine RW.done ?_
  refine AQ.next ?_
  refine CW.ret ?_
  refine AQ.ret1 rfl rfl ?_
  exact ⟨_, _, hle, rfl, hst, hW⟩
set_option maxRecDepth 100000 in
set_option maxHeartbeats 1000000 in
theorem ftells_spec {w0 w : World} {I : Imm} {L : Own} (hst : St w0 w I L) {v0 : Value} {b0 : List UInt8} (hb0 : RdB I v0 b0) (size sectors at0 ep0 sq0 : Int) (hsz : i64ok size) (hsc : i64ok sectors) (hat0 : i64ok at0) (hep : i64ok ep0) (hsq : i64ok sq0) :
    Calls Try.prog 6 #[v0, .int .i64 size, .int .i64 sectors, .int .i64 at0, .int .i64 ep0, .int .i64 sq0] w fun e w' => e = .returned (.bool true) ∧ ∃ I', I.le I' ∧ St w0 w' I' L := by
  refine enter Try.func6 rfl (N := 227) rfl rfl ?_
  simp only [List.zipIdx_cons, List.zipIdx_nil, List.map_cons, List.map_nil, Nat.zero_add, Nat.reduceAdd]
  have hle := Imm.le.refl I
  refine CW.seq ?_
  -- region 0
  refine CW.region ?_
  refine RW.op1 rfl (runs_assign rfl) ?_
  refine RW.done ?_
  refine AQ.next ?_
  refine CW.seq ?_
  -- region 1
  refine CW.region ?_
  refine RW.op1 rfl (runs_assign rfl) ?_
  refine RW.done ?_
  refine AQ.next ?_
  refine CW.seq ?_
  refine CW.seq ?_
  -- region 2
  refine CW.region ?_
  refine RW.op1 rfl (runs_move rfl) ?_
  refine RW.op1 rfl (runs_rem rfl rfl (by decide)) ?_
  refine RW.op1 rfl (runs_gtr rfl rfl) ?_
  refine RW.done ?_
  refine AQ.next ?_
  refine CW.cut (Imm × Value × List UInt8) (fun y w => I.le y.1 ∧ St w0 w y.1 L ∧ RdB y.1 y.2.1 y.2.2) (fun y => [(0, y.2.1), (2, .int .i64 sectors), (3, .int .i64 at0), (4, .int .i64 ep0), (5, .int .i64 sq0), (13, .func (.func 13) #[] #[])]) ?_ ?_
  · refine CW.cond rfl (fun hc34 => ?_) (fun hc34 => ?_)
    · have hcb34 := hc34
      try simp only [decide_eq_true_eq, decide_eq_false_iff_not] at hc34
      -- region 3
      refine CW.region ?_
      refine RW.op1 rfl (runs_move rfl) ?_
      refine RW.op1 rfl (runs_move rfl) ?_
      refine RW.op1 rfl (runs_move rfl) ?_
      refine RW.call rfl call13 rfl rfl (within_spec hst (v := size) (n := 90) (hsz) (by unfold i64ok; omega)) ?_
      rintro e w ⟨rfl, hstn⟩
      clear hst
      have hst := hstn
      clear hstn
      have hw38 := within_range (size) (90)
      generalize hx38 : within (size) (90) = x38 at *
      refine ⟨_, rfl, ?_⟩
      refine RW.call rfl call17 rfl rfl (bytes_spec hst size x38 hsz (by omega)) ?_
      rintro e w ⟨I2, vB1, hI2, rfl, hstn, hB1⟩
      clear hst
      have hst := hstn
      clear hstn
      replace hle := hle.trans hI2
      refine ⟨_, rfl, ?_⟩
      refine RW.op1 rfl (runs_assign rfl) ?_
      refine RW.done ?_
      first
        | exact AQ.meet (_, _, _) ⟨hle, hst, hB1⟩ ⟨rfl, rfl, rfl, rfl, rfl, rfl, trivial⟩
        | exact AQ.meet (_, _, _) ⟨hle, hst, hb0⟩ ⟨rfl, rfl, rfl, rfl, rfl, rfl, trivial⟩
    · have hcb34 := hc34
      try simp only [decide_eq_true_eq, decide_eq_false_iff_not] at hc34
      refine CW.skip ?_
      first
        | exact AQ.meet (_, _, _) ⟨hle, hst, hB1⟩ ⟨rfl, rfl, rfl, rfl, rfl, rfl, trivial⟩
        | exact AQ.meet (_, _, _) ⟨hle, hst, hb0⟩ ⟨rfl, rfl, rfl, rfl, rfl, rfl, trivial⟩
  · clear hle
    rintro ⟨J1, v1, b1⟩ w ⟨hle, hstn, hb1⟩
    dsimp only at hle hstn hb1 ⊢
    clear hst
    have hst := hstn
    clear hstn
    refine AQ.next ?_
    refine CW.seq ?_
    -- region 4
    refine CW.region ?_
    refine RW.op1 rfl (runs_move rfl) ?_
    refine RW.call rfl call22 rfl rfl (cut_spec hst hb1 (n := 5000) (by decide)) ?_
    rintro e w ⟨I3, vb, hI3, rfl, hstn, hb⟩
    clear hst
    have hst := hstn
    clear hstn
    have hbl : (b1.take ((5000 : Int)).toNat).length ≤ 5000 := by rw [List.length_take]; show min 5000 _ ≤ 5000; omega
    generalize b1.take ((5000 : Int)).toNat = b at hb hbl
    have hnr := need_room b.length
    replace hle := hle.trans hI3
    refine ⟨_, rfl, ?_⟩
    refine RW.op1 rfl (runs_assign rfl) ?_
    refine RW.done ?_
    refine AQ.next ?_
    refine CW.seq ?_
    refine CW.seq ?_
    -- region 5
    refine CW.region ?_
    refine RW.op1 rfl (runs_move rfl) ?_
    refine RW.call rfl call8 rfl rfl (sum_spec hst hb (by omega)) ?_
    rintro e w ⟨rfl, hstn⟩
    clear hst
    have hst := hstn
    clear hstn
    refine ⟨_, rfl, ?_⟩
    refine RW.op1 rfl (runs_move rfl) ?_
    refine RW.call rfl call23 rfl rfl (refSum_spec hst hb (by omega)) ?_
    rintro e w ⟨rfl, hstn⟩
    clear hst
    have hst := hstn
    clear hstn
    refine ⟨_, rfl, ?_⟩
    refine RW.op1 rfl (runs_neI rfl rfl) ?_
    refine RW.op1 rfl (runs_move rfl) ?_
    have hk47 := (show decide (((sumN b : Nat) : Int) ≠ ((sumN b : Nat) : Int)) = false by simp)
    refine RW.on_guard rfl rfl rfl rfl hk47 ?_
    refine RW.op1 rfl (runs_move rfl) ?_
    refine RW.on_guard rfl rfl rfl rfl hk47 ?_
    refine RW.call rfl call9 rfl rfl (need_spec hst hb (by omega)) ?_
    rintro e w ⟨rfl, hstn⟩
    clear hst
    have hst := hstn
    clear hstn
    refine ⟨_, rfl, ?_⟩
    refine RW.on_guard rfl rfl rfl rfl hk47 ?_
    refine RW.op1 rfl (runs_move rfl) ?_
    refine RW.on_guard rfl rfl rfl rfl hk47 ?_
    refine RW.call rfl call24 rfl rfl (refNeed_spec hst hb (by omega)) ?_
    rintro e w ⟨rfl, hstn⟩
    clear hst
    have hst := hstn
    clear hstn
    refine ⟨_, rfl, ?_⟩
    refine RW.on_guard rfl rfl rfl rfl hk47 ?_
    refine RW.op1 rfl (runs_neI rfl rfl) ?_
    refine RW.op1 rfl (runs_pick_false rfl hk47 rfl) ?_
    refine RW.done ?_
    refine AQ.next ?_
    refine CW.cond rfl (fun hc => absurd hc (by simp)) (fun hc => ?_)
    refine CW.skip ?_
    refine AQ.next ?_
    refine CW.seq ?_
    -- region 7
    refine CW.region ?_
    refine RW.op1 rfl (runs_move rfl) ?_
    refine RW.op1 rfl (runs_move rfl) ?_
    refine RW.call rfl call13 rfl rfl (within_spec hst (v := sectors) (n := 9) (hsc) (by unfold i64ok; omega)) ?_
    rintro e w ⟨rfl, hstn⟩
    clear hst
    have hst := hstn
    clear hstn
    have hw56 := within_range (sectors) (9)
    generalize hx56 : within (sectors) (9) = x56 at *
    refine ⟨_, rfl, ?_⟩
    refine RW.op1 rfl (runs_assign rfl) ?_
    refine RW.done ?_
    refine AQ.next ?_
    refine CW.seq ?_
    -- region 8
    refine CW.region ?_
    refine RW.op1 rfl (runs_move rfl) ?_
    refine RW.call rfl call10 rfl rfl (new_spec hst x56) ?_
    rintro e w ⟨_, Ld1, rfl, _, hstn, hd1, a1, rfl⟩
    clear hst
    have hst := hstn
    clear hstn
    have hsl : (newR x56).secs.length = x56.toNat := by
      rw [newR_len]
      split
      · omega
      · rw [if_neg (by omega)]
    refine ⟨_, rfl, ?_⟩
    refine RW.op1 rfl (runs_assign rfl) ?_
    refine RW.done ?_
    refine AQ.next ?_
    refine CW.seq ?_
    refine CW.seq ?_
    -- region 9
    refine CW.region ?_
    refine RW.op1 rfl (runs_move rfl) ?_
    refine RW.op1 rfl (runs_eq_nilptr Try.underlying26 rfl) ?_
    refine RW.done ?_
    refine AQ.next ?_
    refine CW.cond rfl (fun hc => absurd hc (by rw [(show (Option.isNone (some a1)) = false from rfl)]; decide)) (fun hc => ?_)
    refine CW.skip ?_
    refine AQ.next ?_
    refine CW.seq ?_
    refine CW.seq ?_
    -- region 11
    refine CW.region ?_
    refine RW.op1 rfl (runs_move rfl) ?_
    refine RW.op1 rfl (runs_rem rfl rfl (by decide)) ?_
    refine RW.op1 rfl (runs_neI rfl rfl) ?_
    refine RW.done ?_
    refine AQ.next ?_
    refine CW.cut Int (fun y w => St w0 w I3 (Ld1 ++ L) ∧ i64ok y) (fun y => [(0, vb), (2, .int .i64 x56), (3, .int .i64 y), (4, .int .i64 ep0), (5, .int .i64 sq0), (13, .func (.func 13) #[] #[]), (14, .pointer (some a1))]) ?_ ?_
    · refine CW.cond rfl (fun hc63 => ?_) (fun hc63 => ?_)
      · have hcb63 := hc63
        try simp only [decide_eq_true_eq, decide_eq_false_iff_not] at hc63
        -- region 12
        refine CW.region ?_
        refine RW.op1 rfl (runs_move rfl) ?_
        refine RW.op1 rfl (runs_move rfl) ?_
        refine RW.op1 rfl (runs_move rfl) ?_
        refine RW.op1 rfl (runs_add rfl rfl (by omega)) ?_
        refine RW.call rfl call13 rfl rfl (within_spec hst (v := at0) (n := x56 + 2) (hat0) (by unfold i64ok; omega)) ?_
        rintro e w ⟨rfl, hstn⟩
        clear hst
        have hst := hstn
        clear hstn
        have hw68 := within_range (at0) (x56 + 2)
        generalize hx68 : within (at0) (x56 + 2) = x68 at *
        refine ⟨_, rfl, ?_⟩
        refine RW.op1 rfl (runs_sub rfl rfl (by omega)) ?_
        refine RW.op1 rfl (runs_assign rfl) ?_
        refine RW.done ?_
        exact AQ.meet _ ⟨hst, by first | exact hat0 | (unfold i64ok; omega)⟩ ⟨rfl, rfl, rfl, rfl, rfl, rfl, rfl, trivial⟩
      · have hcb63 := hc63
        try simp only [decide_eq_true_eq, decide_eq_false_iff_not] at hc63
        refine CW.skip ?_
        exact AQ.meet _ ⟨hst, by first | exact hat0 | (unfold i64ok; omega)⟩ ⟨rfl, rfl, rfl, rfl, rfl, rfl, rfl, trivial⟩
    · rintro at_ w ⟨hstn, hat⟩
      clear hst
      have hst := hstn
      clear hstn
      refine AQ.next ?_
      refine CW.seq ?_
      refine CW.seq ?_
      -- region 13
      refine CW.region ?_
      refine RW.op1 rfl (runs_move rfl) ?_
      refine RW.op1 rfl (runs_rem rfl rfl (by decide)) ?_
      refine RW.op1 rfl (runs_neI rfl rfl) ?_
      refine RW.done ?_
      refine AQ.next ?_
      refine CW.cut (Int × Int) (fun y w => St w0 w I3 (Ld1 ++ L)) (fun y => [(0, vb), (2, .int .i64 x56), (3, .int .i64 at_), (4, .int .i64 y.1), (5, .int .i64 y.2), (14, .pointer (some a1))]) ?_ ?_
      · refine CW.cond rfl (fun hc72 => ?_) (fun hc72 => ?_)
        · have hcb72 := hc72
          try simp only [decide_eq_true_eq, decide_eq_false_iff_not] at hc72
          -- region 14
          refine CW.region ?_
          refine RW.op1 rfl (runs_move rfl) ?_
          refine RW.op1 rfl (runs_move rfl) ?_
          refine RW.call rfl call13 rfl rfl (within_spec hst (v := ep0) (n := 65536) (hep) (by unfold i64ok; omega)) ?_
          rintro e w ⟨rfl, hstn⟩
          clear hst
          have hst := hstn
          clear hstn
          have hw75 := within_range (ep0) (65536)
          generalize hx75 : within (ep0) (65536) = x75 at *
          refine ⟨_, rfl, ?_⟩
          refine RW.op1 rfl (runs_move rfl) ?_
          refine RW.op1 rfl (runs_move rfl) ?_
          refine RW.call rfl call13 rfl rfl (within_spec hst (v := sq0) (n := 16777216) (hsq) (by unfold i64ok; omega)) ?_
          rintro e w ⟨rfl, hstn⟩
          clear hst
          have hst := hstn
          clear hstn
          have hw78 := within_range (sq0) (16777216)
          generalize hx78 : within (sq0) (16777216) = x78 at *
          refine ⟨_, rfl, ?_⟩
          refine RW.op1 rfl (runs_assign rfl) ?_
          refine RW.op1 rfl (runs_assign rfl) ?_
          refine RW.done ?_
          exact AQ.meet (_, _) hst ⟨rfl, rfl, rfl, rfl, rfl, rfl, trivial⟩
        · have hcb72 := hc72
          try simp only [decide_eq_true_eq, decide_eq_false_iff_not] at hc72
          refine CW.skip ?_
          exact AQ.meet (_, _) hst ⟨rfl, rfl, rfl, rfl, rfl, rfl, trivial⟩
      · rintro ⟨ee, qq⟩ w hstn
        clear hst
        have hst := hstn
        clear hstn
        unfold i64ok at hat
        refine AQ.next ?_
        refine CW.seq ?_
        -- region 15
        refine CW.region ?_
        refine RW.op1 rfl (runs_move rfl) ?_
        refine RW.op1 rfl (runs_move rfl) ?_
        refine RW.op1 rfl (runs_buildF (cells := [_, _]) bz32 rfl rfl rfl rfl rfl) ?_
        refine RW.opE rfl (runs_alloc ti32 hst) ?_
        rintro _ w ⟨b13, rfl, hstn⟩
        clear hst
        have hst := hstn
        clear hstn
        first
          | refine RW.opE0 (runs_storeW ti32 rfl rfl hst (k := 0) rfl rfl rfl (NoFz.zero _) rfl) ?_
          | refine RW.opE0 (runs_storeP ti32 rfl rfl hst (k := 0) rfl rfl rfl (NoFz.zero _) rfl) ?_
          | refine RW.opE0 (runs_storeW ti32 rfl rfl hst (k := 1) rfl rfl rfl (NoFz.zero _) rfl) ?_
          | refine RW.opE0 (runs_storeP ti32 rfl rfl hst (k := 1) rfl rfl rfl (NoFz.zero _) rfl) ?_
          | refine RW.opE0 (runs_storeW ti32 rfl rfl hst (k := 2) rfl rfl rfl (NoFz.zero _) rfl) ?_
          | refine RW.opE0 (runs_storeP ti32 rfl rfl hst (k := 2) rfl rfl rfl (NoFz.zero _) rfl) ?_
        rintro w hstn
        clear hst
        have hst := hstn
        clear hstn
        try simp only [List.set_cons_zero, List.set_cons_succ] at hst
        refine RW.done ?_
        refine AQ.next ?_
        refine CW.seq ?_
        -- region 16
        refine CW.region ?_
        refine RW.op1 rfl (runs_move rfl) ?_
        refine RW.op1 rfl (runs_move rfl) ?_
        first
          | refine RW.op1 rfl (runs_loadN (vs := [_, _]) ag32 ti32 rfl hst (k := 0) rfl rfl rfl) ?_
          | refine RW.op1 rfl (runs_loadN (vs := [_, _]) ag32 ti32 rfl hst (k := 1) rfl rfl rfl) ?_
          | refine RW.op1 rfl (runs_loadN (vs := [_, _]) ag32 ti32 rfl hst (k := 2) rfl rfl rfl) ?_
        refine RW.op1 rfl (runs_move rfl) ?_
        refine RW.call rfl call11 rfl rfl (fwrite_spec hd1 (hst.perm List.perm_middle.symm) at_ ee qq (by unfold i64ok; omega) (b := b) hb (by omega) (Nat.zero_le _)) ?_
        rintro e w ⟨I15, Ld2, S2, nx, er, hI15, rfl, hstn, hd2, hfw⟩
        clear hst
        have hst := hstn
        clear hstn
        replace hst := hst.perm List.perm_middle
        have hrs : needN b.length ≤ 300 := by omega
        replace hb := hb.mono hI15
        replace hle := hle.trans hI15
        refine ⟨_, rfl, ?_⟩
        refine RW.op1 rfl (runs_move rfl) ?_
        refine RW.op1 rfl (runs_extract rfl rfl) ?_
        refine RW.op1 rfl (runs_extract rfl rfl) ?_
        refine RW.op1 rfl (runs_assign rfl) ?_
        refine RW.op1 rfl (runs_assign rfl) ?_
        refine RW.done ?_
        refine AQ.next ?_
        refine CW.seq ?_
        -- region 17
        refine CW.region ?_
        refine RW.op1 rfl (runs_move rfl) ?_
        refine RW.call rfl call24 rfl rfl (refNeed_spec hst hb (by omega)) ?_
        rintro e w ⟨rfl, hstn⟩
        clear hst
        have hst := hstn
        clear hstn
        refine ⟨_, rfl, ?_⟩
        refine RW.op1 rfl (runs_assign rfl) ?_
        refine RW.done ?_
        refine AQ.next ?_
        refine CW.seq ?_
        -- region 18
        refine CW.region ?_
        refine RW.op1 rfl (runs_move rfl) ?_
        refine RW.op1 rfl (runs_move rfl) ?_
        refine RW.call rfl call25 rfl rfl (refSeal_spec (b := []) hst ee qq 0 1 (RdL.nil 1) (by decide)) ?_
        rintro e w ⟨I17, v17, hI17, rfl, hstn, _⟩
        clear hst
        have hst := hstn
        clear hstn
        rw [seal_may]
        replace hb := hb.mono hI17
        replace hle := hle.trans hI17
        refine ⟨_, rfl, ?_⟩
        refine RW.op1 rfl (runs_move rfl) ?_
        refine RW.op1 rfl (runs_extract rfl rfl) ?_
        refine RW.op1 rfl (runs_extract rfl rfl) ?_
        refine RW.op1 rfl (runs_assign rfl) ?_
        refine RW.op1 rfl (runs_assign rfl) ?_
        refine RW.done ?_
        refine AQ.next ?_
        refine CW.seq ?_
        refine CW.block ?_
        refine CW.seq ?_
        -- region 19
        refine CW.region ?_
        refine RW.op1 rfl (runs_move rfl) ?_
        refine RW.op1 rfl (runs_not rfl) ?_
        refine RW.op1 rfl (runs_move rfl) ?_
        refine RW.split (t := 101) rfl (fun hb101 => ?_) (fun hb101 => ?_)
        · have hb101p := hb101
          try simp only [decide_eq_true_eq, decide_eq_false_iff_not] at hb101p
          have hmm : mayM ee qq = false := by simpa using hb101
          refine RW.off_guard rfl rfl rfl rfl hb101 ?_
          refine RW.off_guard rfl rfl rfl rfl hb101 ?_
          refine RW.op1 rfl (runs_pick_true rfl hb101 rfl) ?_
          refine RW.op1 rfl (runs_assign rfl) ?_
          refine RW.done ?_
          refine AQ.next ?_
          obtain ⟨rfl, rfl, rfl⟩ := fw_arg (S := newR x56) (by first | exact .inl hmm | exact .inr (by omega)) hfw
          refine CW.cond_true rfl ?_
          refine CW.seq ?_
          -- region 20
          refine CW.region ?_
          refine RW.op1 rfl (runs_move rfl) ?_
          refine RW.op1 rfl (runs_eqI rfl rfl) ?_
          refine RW.op1 rfl (runs_move rfl) ?_
          have hk107 := (show decide ((1 : Int) = 1) = true by decide)
          refine RW.on_guard rfl rfl rfl rfl hk107 ?_
          refine RW.op1 rfl (runs_move rfl) ?_
          refine RW.on_guard rfl rfl rfl rfl hk107 ?_
          refine RW.op1 rfl (runs_eqI rfl rfl) ?_
          refine RW.op1 rfl (runs_pick_true rfl hk107 rfl) ?_
          refine RW.op1 rfl (runs_move rfl) ?_
          have hk111 := (show decide ((0 : Int) = 0) = true by decide)
          refine RW.on_guard rfl rfl rfl rfl hk111 ?_
          refine RW.op1 rfl (runs_move rfl) ?_
          refine RW.on_guard rfl rfl rfl rfl hk111 ?_
          refine RW.call rfl call15 rfl rfl (pending_spec hd2 (hst.perm List.perm_middle.symm)) ?_
          rintro e w ⟨rfl, hstn⟩
          clear hst
          have hst := hstn
          clear hstn
          replace hst := hst.perm List.perm_middle
          refine ⟨_, rfl, ?_⟩
          refine RW.on_guard rfl rfl rfl rfl hk111 ?_
          refine RW.op1 rfl (runs_eqI rfl rfl) ?_
          refine RW.op1 rfl (runs_pick_true rfl hk111 rfl) ?_
          refine RW.op1 rfl (runs_move rfl) ?_
          have hk116 := (show decide ((((newR x56).pend.length : Nat) : Int) = 0) = true by rfl)
          refine RW.on_guard rfl rfl rfl rfl hk116 ?_
          refine RW.call rfl call16 rfl rfl (wakes03_spec hst) ?_
          rintro e w ⟨I19, hI19, rfl, hstn⟩
          clear hst
          have hst := hstn
          clear hstn
          replace hb := hb.mono hI19
          replace hle := hle.trans hI19
          refine ⟨_, rfl, ?_⟩
          refine RW.op1 rfl (runs_pick_true rfl hk116 rfl) ?_
          refine RW.op1 rfl (runs_assign rfl) ?_
          refine RW.done ?_
          refine AQ.next ?_
          refine CW.ret ?_
          refine AQ.block_ret ?_
          refine AQ.past_ret ?_
          refine AQ.ret1 rfl rfl ?_
          exact ⟨rfl, _, hle, hst.sub (by first | exact ((List.sublist_append_right _ _).trans (List.sublist_cons_self _ _)) | exact (((List.sublist_append_right _ _).trans (List.sublist_cons_self _ _)).trans (List.sublist_cons_self _ _)))⟩
        · have hb101p := hb101
          try simp only [decide_eq_true_eq, decide_eq_false_iff_not] at hb101p
          have hmm : mayM ee qq = true := by simpa using hb101
          refine RW.on_guard rfl rfl rfl rfl hb101 ?_
          refine RW.op1 rfl (runs_move rfl) ?_
          refine RW.on_guard rfl rfl rfl rfl hb101 ?_
          refine RW.op1 rfl (runs_gtr rfl rfl) ?_
          refine RW.op1 rfl (runs_pick_false rfl hb101 rfl) ?_
          refine RW.op1 rfl (runs_assign rfl) ?_
          refine RW.done ?_
          refine AQ.next ?_
          refine CW.cond rfl (fun hc98 => ?_) (fun hc98 => ?_)
          · have hcb98 := hc98
            try simp only [decide_eq_true_eq, decide_eq_false_iff_not] at hc98
            obtain ⟨rfl, rfl, rfl⟩ := fw_arg (S := newR x56) (by first | exact .inl hmm | exact .inr (by omega)) hfw
            refine CW.seq ?_
            -- region 20
            refine CW.region ?_
            refine RW.op1 rfl (runs_move rfl) ?_
            refine RW.op1 rfl (runs_eqI rfl rfl) ?_
            refine RW.op1 rfl (runs_move rfl) ?_
            have hk107 := (show decide ((1 : Int) = 1) = true by decide)
            refine RW.on_guard rfl rfl rfl rfl hk107 ?_
            refine RW.op1 rfl (runs_move rfl) ?_
            refine RW.on_guard rfl rfl rfl rfl hk107 ?_
            refine RW.op1 rfl (runs_eqI rfl rfl) ?_
            refine RW.op1 rfl (runs_pick_true rfl hk107 rfl) ?_
            refine RW.op1 rfl (runs_move rfl) ?_
            have hk111 := (show decide ((0 : Int) = 0) = true by decide)
            refine RW.on_guard rfl rfl rfl rfl hk111 ?_
            refine RW.op1 rfl (runs_move rfl) ?_
            refine RW.on_guard rfl rfl rfl rfl hk111 ?_
            refine RW.call rfl call15 rfl rfl (pending_spec hd2 (hst.perm List.perm_middle.symm)) ?_
            rintro e w ⟨rfl, hstn⟩
            clear hst
            have hst := hstn
            clear hstn
            replace hst := hst.perm List.perm_middle
            refine ⟨_, rfl, ?_⟩
            refine RW.on_guard rfl rfl rfl rfl hk111 ?_
            refine RW.op1 rfl (runs_eqI rfl rfl) ?_
            refine RW.op1 rfl (runs_pick_true rfl hk111 rfl) ?_
            refine RW.op1 rfl (runs_move rfl) ?_
            have hk116 := (show decide ((((newR x56).pend.length : Nat) : Int) = 0) = true by rfl)
            refine RW.on_guard rfl rfl rfl rfl hk116 ?_
            refine RW.call rfl call16 rfl rfl (wakes03_spec hst) ?_
            rintro e w ⟨I21, hI21, rfl, hstn⟩
            clear hst
            have hst := hstn
            clear hstn
            replace hb := hb.mono hI21
            replace hle := hle.trans hI21
            refine ⟨_, rfl, ?_⟩
            refine RW.op1 rfl (runs_pick_true rfl hk116 rfl) ?_
            refine RW.op1 rfl (runs_assign rfl) ?_
            refine RW.done ?_
            refine AQ.next ?_
            refine CW.ret ?_
            refine AQ.block_ret ?_
            refine AQ.past_ret ?_
            refine AQ.ret1 rfl rfl ?_
            exact ⟨rfl, _, hle, hst.sub (by first | exact ((List.sublist_append_right _ _).trans (List.sublist_cons_self _ _)) | exact (((List.sublist_append_right _ _).trans (List.sublist_cons_self _ _)).trans (List.sublist_cons_self _ _)))⟩
          · have hcb98 := hc98
            try simp only [decide_eq_true_eq, decide_eq_false_iff_not] at hc98
            have hn255 : needN b.length ≤ 255 := by omega
            refine CW.seq ?_
            -- region 21
            refine CW.region ?_
            refine RW.op1 rfl (runs_move rfl) ?_
            refine RW.op1 rfl (runs_lss rfl rfl) ?_
            refine RW.op1 rfl (runs_move rfl) ?_
            refine RW.split (t := 122) rfl (fun hb122 => ?_) (fun hb122 => ?_)
            · have hb122p := hb122
              try simp only [decide_eq_true_eq, decide_eq_false_iff_not] at hb122p
              refine RW.off_guard rfl rfl rfl rfl hb122 ?_
              refine RW.off_guard rfl rfl rfl rfl hb122 ?_
              refine RW.off_guard rfl rfl rfl rfl hb122 ?_
              refine RW.off_guard rfl rfl rfl rfl hb122 ?_
              refine RW.off_guard rfl rfl rfl rfl hb122 ?_
              refine RW.op1 rfl (runs_pick_true rfl hb122 rfl) ?_
              refine RW.op1 rfl (runs_assign rfl) ?_
              refine RW.done ?_
              refine AQ.next ?_
              obtain ⟨rfl, rfl, rfl⟩ := fw_range (S := newR x56) hmm hn255 (by rw [hsl]; omega) hfw
              refine CW.cond_true rfl ?_
              refine CW.seq ?_
              -- region 22
              refine CW.region ?_
              refine RW.op1 rfl (runs_move rfl) ?_
              refine RW.op1 rfl (runs_eqI rfl rfl) ?_
              refine RW.op1 rfl (runs_move rfl) ?_
              have hk131 := (show decide ((9 : Int) = 9) = true by decide)
              refine RW.on_guard rfl rfl rfl rfl hk131 ?_
              refine RW.op1 rfl (runs_move rfl) ?_
              refine RW.on_guard rfl rfl rfl rfl hk131 ?_
              refine RW.op1 rfl (runs_eqI rfl rfl) ?_
              refine RW.op1 rfl (runs_pick_true rfl hk131 rfl) ?_
              refine RW.op1 rfl (runs_move rfl) ?_
              have hk135 := (show decide ((0 : Int) = 0) = true by decide)
              refine RW.on_guard rfl rfl rfl rfl hk135 ?_
              refine RW.op1 rfl (runs_move rfl) ?_
              refine RW.on_guard rfl rfl rfl rfl hk135 ?_
              refine RW.call rfl call15 rfl rfl (pending_spec hd2 (hst.perm List.perm_middle.symm)) ?_
              rintro e w ⟨rfl, hstn⟩
              clear hst
              have hst := hstn
              clear hstn
              replace hst := hst.perm List.perm_middle
              refine ⟨_, rfl, ?_⟩
              refine RW.on_guard rfl rfl rfl rfl hk135 ?_
              refine RW.op1 rfl (runs_eqI rfl rfl) ?_
              refine RW.op1 rfl (runs_pick_true rfl hk135 rfl) ?_
              refine RW.op1 rfl (runs_move rfl) ?_
              have hk140 := (show decide ((((newR x56).pend.length : Nat) : Int) = 0) = true by rfl)
              refine RW.on_guard rfl rfl rfl rfl hk140 ?_
              refine RW.call rfl call16 rfl rfl (wakes03_spec hst) ?_
              rintro e w ⟨I23, hI23, rfl, hstn⟩
              clear hst
              have hst := hstn
              clear hstn
              replace hb := hb.mono hI23
              replace hle := hle.trans hI23
              refine ⟨_, rfl, ?_⟩
              refine RW.op1 rfl (runs_pick_true rfl hk140 rfl) ?_
              refine RW.op1 rfl (runs_assign rfl) ?_
              refine RW.done ?_
              refine AQ.next ?_
              refine CW.ret ?_
              refine AQ.block_ret ?_
              refine AQ.past_ret ?_
              refine AQ.ret1 rfl rfl ?_
              exact ⟨rfl, _, hle, hst.sub (by first | exact ((List.sublist_append_right _ _).trans (List.sublist_cons_self _ _)) | exact (((List.sublist_append_right _ _).trans (List.sublist_cons_self _ _)).trans (List.sublist_cons_self _ _)))⟩
            · have hb122p := hb122
              try simp only [decide_eq_true_eq, decide_eq_false_iff_not] at hb122p
              refine RW.on_guard rfl rfl rfl rfl hb122 ?_
              refine RW.op1 rfl (runs_move rfl) ?_
              refine RW.on_guard rfl rfl rfl rfl hb122 ?_
              refine RW.op1 rfl (runs_move rfl) ?_
              refine RW.on_guard rfl rfl rfl rfl hb122 ?_
              refine RW.op1 rfl (runs_move rfl) ?_
              refine RW.on_guard rfl rfl rfl rfl hb122 ?_
              refine RW.op1 rfl (runs_sub rfl rfl (by omega)) ?_
              refine RW.on_guard rfl rfl rfl rfl hb122 ?_
              refine RW.op1 rfl (runs_gtr rfl rfl) ?_
              refine RW.op1 rfl (runs_pick_false rfl hb122 rfl) ?_
              refine RW.op1 rfl (runs_assign rfl) ?_
              refine RW.done ?_
              refine AQ.next ?_
              refine CW.cond rfl (fun hc119 => ?_) (fun hc119 => ?_)
              · have hcb119 := hc119
                try simp only [decide_eq_true_eq, decide_eq_false_iff_not] at hc119
                obtain ⟨rfl, rfl, rfl⟩ := fw_range (S := newR x56) hmm hn255 (by rw [hsl]; omega) hfw
                refine CW.seq ?_
                -- region 22
                refine CW.region ?_
                refine RW.op1 rfl (runs_move rfl) ?_
                refine RW.op1 rfl (runs_eqI rfl rfl) ?_
                refine RW.op1 rfl (runs_move rfl) ?_
                have hk131 := (show decide ((9 : Int) = 9) = true by decide)
                refine RW.on_guard rfl rfl rfl rfl hk131 ?_
                refine RW.op1 rfl (runs_move rfl) ?_
                refine RW.on_guard rfl rfl rfl rfl hk131 ?_
                refine RW.op1 rfl (runs_eqI rfl rfl) ?_
                refine RW.op1 rfl (runs_pick_true rfl hk131 rfl) ?_
                refine RW.op1 rfl (runs_move rfl) ?_
                have hk135 := (show decide ((0 : Int) = 0) = true by decide)
                refine RW.on_guard rfl rfl rfl rfl hk135 ?_
                refine RW.op1 rfl (runs_move rfl) ?_
                refine RW.on_guard rfl rfl rfl rfl hk135 ?_
                refine RW.call rfl call15 rfl rfl (pending_spec hd2 (hst.perm List.perm_middle.symm)) ?_
                rintro e w ⟨rfl, hstn⟩
                clear hst
                have hst := hstn
                clear hstn
                replace hst := hst.perm List.perm_middle
                refine ⟨_, rfl, ?_⟩
                refine RW.on_guard rfl rfl rfl rfl hk135 ?_
                refine RW.op1 rfl (runs_eqI rfl rfl) ?_
                refine RW.op1 rfl (runs_pick_true rfl hk135 rfl) ?_
                refine RW.op1 rfl (runs_move rfl) ?_
                have hk140 := (show decide ((((newR x56).pend.length : Nat) : Int) = 0) = true by rfl)
                refine RW.on_guard rfl rfl rfl rfl hk140 ?_
                refine RW.call rfl call16 rfl rfl (wakes03_spec hst) ?_
                rintro e w ⟨I25, hI25, rfl, hstn⟩
                clear hst
                have hst := hstn
                clear hstn
                replace hb := hb.mono hI25
                replace hle := hle.trans hI25
                refine ⟨_, rfl, ?_⟩
                refine RW.op1 rfl (runs_pick_true rfl hk140 rfl) ?_
                refine RW.op1 rfl (runs_assign rfl) ?_
                refine RW.done ?_
                refine AQ.next ?_
                refine CW.ret ?_
                refine AQ.block_ret ?_
                refine AQ.past_ret ?_
                refine AQ.ret1 rfl rfl ?_
                exact ⟨rfl, _, hle, hst.sub (by first | exact ((List.sublist_append_right _ _).trans (List.sublist_cons_self _ _)) | exact (((List.sublist_append_right _ _).trans (List.sublist_cons_self _ _)).trans (List.sublist_cons_self _ _)))⟩
              · have hcb119 := hc119
                try simp only [decide_eq_true_eq, decide_eq_false_iff_not] at hc119
                have hin : 0 ≤ at_ ∧ at_ + (needN b.length : Nat) ≤ (newR x56).secs.length := by rw [hsl]; omega
                obtain ⟨hS2, rfl, rfl⟩ := fw_ok (S := newR x56) ⟨rfl, rfl⟩ hmm hn255 hin.1 hin.2 hfw
                have hup : S2.down = false := by rw [hS2]; rfl
                have hsl2 : S2.secs.length = x56.toNat := by rw [hS2]; exact hsl
                have hpl : S2.pend.length = needN b.length := by rw [hS2]; show ([] ++ putP _ _ _).length = _; rw [List.nil_append, putP_len]
                have hh : Holds S2 at_ ee qq b := by rw [hS2]; exact fw_holds hmm hn255
                refine CW.skip ?_
                refine AQ.block_normal ?_
                refine AQ.next ?_
                refine CW.seq ?_
                refine CW.seq ?_
                -- region 23
                refine CW.region ?_
                refine RW.op1 rfl (runs_move rfl) ?_
                refine RW.op1 rfl (runs_neI rfl rfl) ?_
                refine RW.op1 rfl (runs_move rfl) ?_
                have hk145 := (show decide ((0 : Int) ≠ 0) = false by decide)
                refine RW.on_guard rfl rfl rfl rfl hk145 ?_
                refine RW.op1 rfl (runs_move rfl) ?_
                refine RW.on_guard rfl rfl rfl rfl hk145 ?_
                refine RW.op1 rfl (runs_move rfl) ?_
                refine RW.on_guard rfl rfl rfl rfl hk145 ?_
                refine RW.op1 rfl (runs_move rfl) ?_
                refine RW.on_guard rfl rfl rfl rfl hk145 ?_
                refine RW.op1 rfl (runs_add rfl rfl (by omega)) ?_
                refine RW.on_guard rfl rfl rfl rfl hk145 ?_
                refine RW.op1 rfl (runs_neI rfl rfl) ?_
                refine RW.op1 rfl (runs_pick_false rfl hk145 rfl) ?_
                refine RW.op1 rfl (runs_move rfl) ?_
                have hk152 := (show decide (at_ + (needN b.length : Nat) ≠ at_ + (needN b.length : Nat)) = false by simp)
                refine RW.on_guard rfl rfl rfl rfl hk152 ?_
                refine RW.op1 rfl (runs_move rfl) ?_
                refine RW.on_guard rfl rfl rfl rfl hk152 ?_
                refine RW.call rfl call15 rfl rfl (pending_spec hd2 (hst.perm List.perm_middle.symm)) ?_
                rintro e w ⟨rfl, hstn⟩
                clear hst
                have hst := hstn
                clear hstn
                replace hst := hst.perm List.perm_middle
                rw [hpl]
                refine ⟨_, rfl, ?_⟩
                refine RW.on_guard rfl rfl rfl rfl hk152 ?_
                refine RW.op1 rfl (runs_move rfl) ?_
                refine RW.on_guard rfl rfl rfl rfl hk152 ?_
                refine RW.op1 rfl (runs_neI rfl rfl) ?_
                refine RW.op1 rfl (runs_pick_false rfl hk152 rfl) ?_
                refine RW.done ?_
                refine AQ.next ?_
                refine CW.cond rfl (fun hc => absurd hc (by simp)) (fun hc => ?_)
                refine CW.skip ?_
                refine AQ.next ?_
                refine CW.seq ?_
                -- region 25
                refine CW.region ?_
                refine RW.op1 rfl (runs_move rfl) ?_
                refine RW.call rfl call26 rfl rfl (refFramed_spec hst hb (by omega)) ?_
                rintro e w ⟨I27, vF, hI27, rfl, hstn, hF⟩
                clear hst
                have hst := hstn
                clear hstn
                replace hb := hb.mono hI27
                replace hle := hle.trans hI27
                refine ⟨_, rfl, ?_⟩
                refine RW.op1 rfl (runs_assign rfl) ?_
                refine RW.done ?_
                refine AQ.next ?_
                refine CW.seq ?_
                refine CW.seq ?_
                -- region 26
                refine CW.region ?_
                refine RW.op1 rfl (runs_assign rfl) ?_
                refine RW.done ?_
                refine AQ.next ?_
                refine CW.block ?_
                -- loop 1
                refine CW.loop (Nat × Imm × Value) (fun x w => I.le x.2.1 ∧ St w0 w x.2.1 ((b13, .cells #[.int .i64 ee, .int .i64 qq] 32) :: (Ld2 ++ L)) ∧ RdB x.2.1 vb b ∧ RdB x.2.1 x.2.2 ((wholeB b).drop (19 * x.1)) ∧ x.1 ≤ needN b.length) (fun x => [(0, vb), (2, .int .i64 x56), (3, .int .i64 at_), (4, .int .i64 ee), (5, .int .i64 qq), (14, .pointer (some a1)), (15, .pointer (some ⟨b13, 0, none⟩)), (16, .int .i64 (at_ + (needN b.length : Nat))), (18, .int .i64 (needN b.length : Nat)), (21, x.2.2), (22, .int .i64 (x.1 : Int))]) (fun x => needN b.length - x.1) ⟨(0, _, _), ⟨hle, hst, hb, hF, Nat.zero_le _⟩, ⟨rfl, rfl, rfl, rfl, rfl, rfl, rfl, rfl, rfl, rfl, rfl, trivial⟩⟩ ?_
                clear hle hb hF
                rintro ⟨k, I9, vr⟩ w ⟨hle, hstn, hb, hr, hk⟩
                dsimp only at hle hstn hb hr hk ⊢
                clear hst
                have hst := hstn
                clear hstn
                refine CW.seq ?_
                refine CW.seq ?_
                -- region 27
                refine CW.region ?_
                refine RW.op1 rfl (runs_move rfl) ?_
                refine RW.op1 rfl (runs_move rfl) ?_
                refine RW.op1 rfl (runs_lss rfl rfl) ?_
                refine RW.done ?_
                refine AQ.next ?_
                refine CW.cond rfl (fun hc162 => ?_) (fun hc162 => ?_)
                · have hcb162 := hc162
                  try simp only [decide_eq_true_eq, decide_eq_false_iff_not] at hc162
                  have hk1 : k < needN b.length := by omega
                  have hsm := seal_part hmm hn255 hk1
                  have hpl2 := partB_len b k
                  refine CW.skip ?_
                  refine AQ.next ?_
                  refine CW.seq ?_
                  refine CW.block ?_
                  refine CW.seq ?_
                  -- region 29
                  refine CW.region ?_
                  refine RW.op1 rfl (runs_move rfl) ?_
                  refine RW.op1 rfl (RdL.len Try.underlying24 rfl hr) ?_
                  refine RW.op1 rfl (runs_min rfl rfl) ?_
                  obtain ⟨mn, hmn, hmn1⟩ : ∃ m : Nat, (if (19 : Int) < ((((wholeB b).drop (19 * k)).length : Nat) : Int) then (19 : Int) else ((((wholeB b).drop (19 * k)).length : Nat) : Int)) = (m : Int) ∧ (m = 19 ∧ 19 ≤ ((wholeB b).drop (19 * k)).length ∨ m = ((wholeB b).drop (19 * k)).length ∧ m < 19) := by
                    by_cases h : ((wholeB b).drop (19 * k)).length < 19
                    · exact ⟨_, by rw [if_neg (by omega)], .inr ⟨rfl, h⟩⟩
                    · by_cases h2 : 19 < ((wholeB b).drop (19 * k)).length
                      · exact ⟨19, if_pos (by omega), .inl ⟨rfl, by omega⟩⟩
                      · exact ⟨19, (if_neg (by omega)).trans (by omega), .inl ⟨rfl, by omega⟩⟩
                  rw [hmn]
                  refine RW.op1 rfl (runs_assign rfl) ?_
                  refine RW.done ?_
                  refine AQ.next ?_
                  refine CW.seq ?_
                  -- region 30
                  refine CW.region ?_
                  refine RW.op1 rfl (runs_move rfl) ?_
                  refine RW.op1 rfl (runs_move rfl) ?_
                  refine RW.op1 rfl (runs_move rfl) ?_
                  refine RW.op1 rfl (runs_move rfl) ?_
                  refine RW.op1 rfl (runs_move rfl) ?_
                  refine RW.op1 rfl (runs_move rfl) ?_
                  have hrp := RdB.part hr (lo := 0) (hi := mn) (Nat.zero_le _) (by omega)
                  rw [rest_part hmn1] at hrp
                  refine RW.op1 rfl (RdL.slice_h Try.underlying24 ti5 rfl rfl hr (by omega)) ?_
                  refine RW.call rfl call25 rfl rfl (refSeal_spec hst ee qq (k : Int) (needN b.length : Nat) hrp (by omega)) ?_
                  rintro e w ⟨I28, vS, hI28, rfl, hstn, hS⟩
                  clear hst
                  have hst := hstn
                  clear hstn
                  rw [hsm] at hS ⊢
                  replace hS : RdB I28 vS (secB ee qq b k) := hS
                  replace hb := hb.mono hI28
                  replace hr := hr.mono hI28
                  replace hle := hle.trans hI28
                  refine ⟨_, rfl, ?_⟩
                  refine RW.op1 rfl (runs_move rfl) ?_
                  refine RW.op1 rfl (runs_extract rfl rfl) ?_
                  refine RW.op1 rfl (runs_extract rfl rfl) ?_
                  refine RW.op1 rfl (runs_assign rfl) ?_
                  refine RW.op1 rfl (runs_assign rfl) ?_
                  refine RW.done ?_
                  refine AQ.next ?_
                  refine CW.seq ?_
                  -- region 31
                  refine CW.region ?_
                  refine RW.op1 rfl (runs_move rfl) ?_
                  refine RW.op1 rfl (runs_move rfl) ?_
                  have hrn := RdB.part hr (lo := ((mn : Nat) : Int).toNat) (hi := ((wholeB b).drop (19 * k)).length) (by omega) (Nat.le_refl _)
                  rw [Int.toNat_natCast, rest_next hmn1] at hrn
                  refine RW.op1 rfl (RdL.slice_l Try.underlying24 ti5 rfl rfl hr (by omega)) ?_
                  refine RW.op1 rfl (runs_assign rfl) ?_
                  refine RW.done ?_
                  refine AQ.next ?_
                  refine CW.seq ?_
                  -- region 32
                  refine CW.region ?_
                  refine RW.op1 rfl (runs_move rfl) ?_
                  refine RW.op1 rfl (runs_move rfl) ?_
                  refine RW.op1 rfl (runs_move rfl) ?_
                  refine RW.op1 rfl (runs_add rfl rfl (by omega)) ?_
                  refine RW.call rfl call12 rfl rfl (read_spec hd2 (hst.perm List.perm_middle.symm) (at_ + (k : Int))) ?_
                  rintro e w ⟨I29, vR, hI29, rfl, hstn, hR⟩
                  clear hst
                  have hst := hstn
                  clear hstn
                  replace hst := hst.perm List.perm_middle
                  have hm0 : mayR S2 (at_ + (k : Int)) = 0 := may_in hup (by omega) (by rw [hsl2]; omega)
                  rw [if_pos hm0, hh.2.2 k hk1] at hR
                  rw [hm0]
                  replace hb := hb.mono hI29
                  replace hrn := hrn.mono hI29
                  replace hS := hS.mono hI29
                  replace hle := hle.trans hI29
                  refine ⟨_, rfl, ?_⟩
                  refine RW.op1 rfl (runs_move rfl) ?_
                  refine RW.op1 rfl (runs_extract rfl rfl) ?_
                  refine RW.op1 rfl (runs_extract rfl rfl) ?_
                  refine RW.op1 rfl (runs_assign rfl) ?_
                  refine RW.op1 rfl (runs_assign rfl) ?_
                  refine RW.done ?_
                  refine AQ.next ?_
                  refine CW.seq ?_
                  -- region 33
                  refine CW.region ?_
                  refine RW.op1 rfl (runs_move rfl) ?_
                  refine RW.op1 rfl (runs_neI rfl rfl) ?_
                  refine RW.op1 rfl (runs_move rfl) ?_
                  have hk192 := (show decide ((0 : Int) ≠ 0) = false by decide)
                  refine RW.on_guard rfl rfl rfl rfl hk192 ?_
                  refine RW.op1 rfl (runs_move rfl) ?_
                  refine RW.on_guard rfl rfl rfl rfl hk192 ?_
                  refine RW.op1 rfl (runs_move rfl) ?_
                  refine RW.on_guard rfl rfl rfl rfl hk192 ?_
                  refine RW.call rfl call14 rfl rfl (same_spec hst hR hS (by rw [secB_len hmm hn255 hk1]; decide)) ?_
                  rintro e w ⟨rfl, hstn⟩
                  clear hst
                  have hst := hstn
                  clear hstn
                  refine ⟨_, rfl, ?_⟩
                  refine RW.on_guard rfl rfl rfl rfl hk192 ?_
                  refine RW.op1 rfl (runs_not rfl) ?_
                  refine RW.op1 rfl (runs_pick_false rfl hk192 rfl) ?_
                  refine RW.done ?_
                  refine AQ.next ?_
                  refine CW.cond rfl (fun hc => absurd hc (by simp)) (fun hc => ?_)
                  refine CW.skip ?_
                  refine AQ.block_normal ?_
                  refine AQ.next ?_
                  -- region 28
                  refine CW.region ?_
                  refine RW.op1 rfl (runs_move rfl) ?_
                  refine RW.op1 rfl (runs_add rfl rfl (by omega)) ?_
                  refine RW.op1 rfl (runs_assign rfl) ?_
                  refine RW.done ?_
                  exact AQ.again (x := (k, I9, vr)) (k + 1, _, _) ⟨hle, hst, hb, hrn, by omega⟩ ⟨rfl, rfl, rfl, rfl, rfl, rfl, rfl, rfl, rfl, rfl, rfl, trivial⟩ (by dsimp only; omega)
                · have hcb162 := hc162
                  try simp only [decide_eq_true_eq, decide_eq_false_iff_not] at hc162
                  have hkn : k = needN b.length := by omega
                  refine CW.exit ?_
                  refine AQ.past_exit ?_
                  refine AQ.past_exit ?_
                  refine AQ.block_hit ?_
                  refine AQ.next ?_
                  refine CW.seq ?_
                  -- region 35
                  refine CW.region ?_
                  refine RW.op1 rfl (runs_move rfl) ?_
                  refine RW.op1 rfl (runs_move rfl) ?_
                  refine RW.op1 rfl (runs_move rfl) ?_
                  refine RW.call rfl call18 rfl rfl (fread_spec hd2 (hst.perm List.perm_middle.symm) at_ x56) ?_
                  rintro e w ⟨I31, vG, re, rq, rb, rn, rer, hI31, rfl, hstn, hG, hfr⟩
                  clear hst
                  have hst := hstn
                  clear hstn
                  replace hst := hst.perm List.perm_middle
                  have hrr := hh.read hup hin.1 (by omega) (by rw [hsl2]; omega) hfr
                  simp only [Prod.mk.injEq] at hrr
                  obtain ⟨rfl, rfl, rfl, rfl, rfl⟩ := hrr
                  replace hb := hb.mono hI31
                  replace hr := hr.mono hI31
                  replace hle := hle.trans hI31
                  refine ⟨_, rfl, ?_⟩
                  refine RW.op1 rfl (runs_move rfl) ?_
                  refine RW.op1 rfl (runs_extract rfl rfl) ?_
                  refine RW.op1 rfl (runs_extract rfl rfl) ?_
                  refine RW.op1 rfl (runs_extract rfl rfl) ?_
                  refine RW.op1 rfl (runs_extract rfl rfl) ?_
                  refine RW.opE rfl (runs_alloc ti32 hst) ?_
                  rintro _ w ⟨b32, rfl, hstn⟩
                  clear hst
                  have hst := hstn
                  clear hstn
                  first
                    | refine RW.opE0 (runs_storeW ti32 rfl rfl hst (k := 0) rfl rfl rfl (NoFz.zero _) rfl) ?_
                    | refine RW.opE0 (runs_storeP ti32 rfl rfl hst (k := 0) rfl rfl rfl (NoFz.zero _) rfl) ?_
                    | refine RW.opE0 (runs_storeW ti32 rfl rfl hst (k := 1) rfl rfl rfl (NoFz.zero _) rfl) ?_
                    | refine RW.opE0 (runs_storeP ti32 rfl rfl hst (k := 1) rfl rfl rfl (NoFz.zero _) rfl) ?_
                    | refine RW.opE0 (runs_storeW ti32 rfl rfl hst (k := 2) rfl rfl rfl (NoFz.zero _) rfl) ?_
                    | refine RW.opE0 (runs_storeP ti32 rfl rfl hst (k := 2) rfl rfl rfl (NoFz.zero _) rfl) ?_
                  rintro w hstn
                  clear hst
                  have hst := hstn
                  clear hstn
                  try simp only [List.set_cons_zero, List.set_cons_succ] at hst
                  refine RW.op1 rfl (runs_assign rfl) ?_
                  refine RW.op1 rfl (runs_assign rfl) ?_
                  refine RW.op1 rfl (runs_assign rfl) ?_
                  refine RW.done ?_
                  refine AQ.next ?_
                  refine CW.seq ?_
                  -- region 36
                  refine CW.region ?_
                  refine RW.op1 rfl (runs_move rfl) ?_
                  refine RW.op1 rfl (runs_eqI rfl rfl) ?_
                  refine RW.op1 rfl (runs_move rfl) ?_
                  have hk209 := (show decide ((0 : Int) = 0) = true by decide)
                  refine RW.on_guard rfl rfl rfl rfl hk209 ?_
                  first
                    | refine RW.op1 rfl (runs_loadN (vs := [_, _]) ag32 ti32 rfl hst (k := 0) rfl rfl rfl) ?_
                    | refine RW.op1 rfl (runs_loadN (vs := [_, _]) ag32 ti32 rfl hst (k := 1) rfl rfl rfl) ?_
                    | refine RW.op1 rfl (runs_loadN (vs := [_, _]) ag32 ti32 rfl hst (k := 2) rfl rfl rfl) ?_
                  refine RW.on_guard rfl rfl rfl rfl hk209 ?_
                  first
                    | refine RW.op1 rfl (runs_loadN (vs := [_, _]) ag32 ti32 rfl hst (k := 0) rfl rfl rfl) ?_
                    | refine RW.op1 rfl (runs_loadN (vs := [_, _]) ag32 ti32 rfl hst (k := 1) rfl rfl rfl) ?_
                    | refine RW.op1 rfl (runs_loadN (vs := [_, _]) ag32 ti32 rfl hst (k := 2) rfl rfl rfl) ?_
                  refine RW.on_guard rfl rfl rfl rfl hk209 ?_
                  refine RW.op1 rfl (runs_eqZ (xs := [_, _]) (ys := [_, _]) ez32 rfl rfl rfl rfl) ?_
                  refine RW.op1 rfl (runs_pick_true rfl hk209 rfl) ?_
                  refine RW.op1 rfl (runs_move rfl) ?_
                  have hk214 := (show decide ([re, rq] = [re, rq]) = true by simp)
                  refine RW.on_guard rfl rfl rfl rfl hk214 ?_
                  refine RW.op1 rfl (runs_move rfl) ?_
                  refine RW.on_guard rfl rfl rfl rfl hk214 ?_
                  refine RW.op1 rfl (runs_move rfl) ?_
                  refine RW.on_guard rfl rfl rfl rfl hk214 ?_
                  refine RW.call rfl call14 rfl rfl (same_spec hst hG hb (by omega)) ?_
                  rintro e w ⟨rfl, hstn⟩
                  clear hst
                  have hst := hstn
                  clear hstn
                  refine ⟨_, rfl, ?_⟩
                  refine RW.op1 rfl (runs_pick_true rfl hk214 rfl) ?_
                  refine RW.op1 rfl (runs_move rfl) ?_
                  have hk219 := (show decide (rb = rb) = true by simp)
                  refine RW.on_guard rfl rfl rfl rfl hk219 ?_
                  refine RW.op1 rfl (runs_move rfl) ?_
                  refine RW.on_guard rfl rfl rfl rfl hk219 ?_
                  refine RW.op1 rfl (runs_move rfl) ?_
                  refine RW.on_guard rfl rfl rfl rfl hk219 ?_
                  refine RW.op1 rfl (runs_eqI rfl rfl) ?_
                  refine RW.op1 rfl (runs_pick_true rfl hk219 rfl) ?_
                  refine RW.op1 rfl (runs_move rfl) ?_
                  have hk224 := (show decide (at_ + (needN rb.length : Nat) = at_ + (needN rb.length : Nat)) = true by simp)
                  refine RW.on_guard rfl rfl rfl rfl hk224 ?_
                  refine RW.call rfl call16 rfl rfl (wakes03_spec hst) ?_
                  rintro e w ⟨I35, hI35, rfl, hstn⟩
                  clear hst
                  have hst := hstn
                  clear hstn
                  replace hb := hb.mono hI35
                  replace hr := hr.mono hI35
                  replace hG := hG.mono hI35
                  replace hle := hle.trans hI35
                  refine ⟨_, rfl, ?_⟩
                  refine RW.op1 rfl (runs_pick_true rfl hk224 rfl) ?_
                  refine RW.op1 rfl (runs_assign rfl) ?_
                  refine RW.done ?_
                  refine AQ.next ?_
                  refine CW.ret ?_
                  refine AQ.ret1 rfl rfl ?_
                  exact ⟨rfl, _, hle, hst.sub (by first | exact ((List.sublist_append_right _ _).trans (List.sublist_cons_self _ _)) | exact (((List.sublist_append_right _ _).trans (List.sublist_cons_self _ _)).trans (List.sublist_cons_self _ _)))⟩
end Go.Proofs.YtcbndkllppmmmaaX
