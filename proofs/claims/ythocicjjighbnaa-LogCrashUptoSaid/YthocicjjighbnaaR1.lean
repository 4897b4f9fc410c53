/- Sums, sizes, a record's bytes: what these come to. -/
import Derived.Test.YthocicjjighbnaaT
import Derived.Test.YthocicjjighbnaaR0
import Derived.Test.YthocicjjighbnaaM5
import Derived.Test.YthocicjjighbnaaD6
namespace Go.Proofs.YthocicjjighbnaaX
set_option linter.unusedVariables false
set_option linter.unusedSimpArgs false
open Go Go.RowKit Go.Proofs

set_option maxRecDepth 100000 in
set_option maxHeartbeats 1000000 in
theorem sum_spec {w0 w : World} {I : Imm} {L : Own} (hst : St w0 w I L) {v : Value} {bs : List UInt8} (hv : RdB I v bs) (hb : bs.length ≤ 140737488355328) :
    Calls Try.prog 53 #[v] w fun e w' => e = .returned (.int .u32 ((sumN bs : Nat) : Int)) ∧ St w0 w' I L := by
  refine enter Try.func53 rfl (N := 31) rfl rfl ?_
  simp only [List.zipIdx_cons, List.zipIdx_nil, List.map_cons, List.map_nil, Nat.zero_add, Nat.reduceAdd]
  have hle := Imm.le.refl I
  refine CW.seq ?_
  -- region 0
  refine CW.region ?_
  refine RW.op1 rfl (runs_assign rfl) ?_
  refine RW.done ?_
  refine AQ.next ?_
  refine CW.seq ?_
  -- region 1
  refine CW.region ?_
  refine RW.op1 rfl (runs_assign rfl) ?_
  refine RW.done ?_
  refine AQ.next ?_
  refine CW.seq ?_
  refine CW.seq ?_
  -- region 2
  refine CW.region ?_
  refine RW.op1 rfl (runs_move rfl) ?_
  refine RW.op1 rfl (RdL.len Try.underlying33 rfl hv) ?_
  refine RW.op1 rfl (runs_move rfl) ?_
  refine RW.done ?_
  refine AQ.next ?_
  refine CW.block ?_
  -- loop 1
  refine CW.loop Nat (fun k w => St w0 w I L ∧ k ≤ bs.length) (fun k => [(3, .int .u32 ((crcTo bs k : Nat) : Int)), (7, v), (8, .int .i64 (bs.length : Nat)), (9, .int .i64 (k : Int))]) (fun k => bs.length - k) ⟨0, ⟨hst, Nat.zero_le _⟩, ⟨rfl, rfl, rfl, rfl, trivial⟩⟩ ?_
  rintro k w ⟨hstn, hk⟩
  clear hst
  have hst := hstn
  clear hstn
  refine CW.seq ?_
  -- region 3
  refine CW.region ?_
  refine RW.op1 rfl (runs_lss rfl rfl) ?_
  refine RW.done ?_
  refine AQ.next ?_
  refine CW.seq ?_
  refine CW.cond rfl (fun hc10 => ?_) (fun hc10 => ?_)
  · have hcb10 := hc10
    try simp only [decide_eq_true_eq, decide_eq_false_iff_not] at hc10
    have hk1 : k < bs.length := by omega
    obtain ⟨c, hc⟩ : ∃ c, bs[k] = c := ⟨_, rfl⟩
    have hcl := c.toNat_lt
    have hx := crcTo_lt bs k
    have hnx := crcTo_next hk1
    rw [hc] at hnx
    have hbat : bat bs (k : Int) = (c.toNat : Int) := by unfold bat; simp [hk1, hc]
    refine CW.skip ?_
    refine AQ.next ?_
    refine CW.seq ?_
    refine CW.block ?_
    refine CW.seq ?_
    -- region 4
    refine CW.region ?_
    refine RW.op1 rfl (RdL.indexAddr Try.underlying33 ti5 (by decide) rfl rfl hv (by omega)) ?_
    refine RW.op1 rfl (runs_load1 sc5 rfl (hst.cell_imm (RdB.at hv (by omega) (by omega)))) ?_
    rw [hbat]
    refine RW.op1 rfl (runs_assign rfl) ?_
    refine RW.done ?_
    refine AQ.next ?_
    refine CW.seq ?_
    -- region 5
    refine CW.region ?_
    refine RW.op1 rfl (runs_move rfl) ?_
    refine RW.op1 rfl (runs_move rfl) ?_
    refine RW.op1 rfl (runs_convI (by rw [Try.underlying5]; rfl) Try.underlying88 rfl) ?_
    rw [show IntKind.u32.wrap (c.toNat : Int) = (c.toNat : Int) by rw [IntKind.wrap_u32]; omega]
    refine RW.op1 rfl (runs_xor rfl rfl) ?_
    rw [xor32 hx (show c.toNat < 4294967296 by omega)]
    refine RW.op1 rfl (runs_assign rfl) ?_
    refine RW.done ?_
    refine AQ.next ?_
    refine CW.seq ?_
    -- region 6
    refine CW.region ?_
    refine RW.op1 rfl (runs_move rfl) ?_
    refine RW.done ?_
    refine AQ.next ?_
    refine CW.block ?_
    -- loop 2
    refine CW.loop Nat (fun j w => St w0 w I L ∧ j ≤ 8) (fun j => [(3, .int .u32 ((crcBits j (crcTo bs k ^^^ c.toNat) : Nat) : Int)), (7, v), (8, .int .i64 (bs.length : Nat)), (9, .int .i64 (k : Int)), (17, .int .i64 (j : Int))]) (fun j => 8 - j) ⟨0, ⟨hst, Nat.zero_le _⟩, ⟨rfl, rfl, rfl, rfl, rfl, trivial⟩⟩ ?_
    rintro j w ⟨hstn, hj⟩
    clear hst
    have hst := hstn
    clear hstn
    refine CW.seq ?_
    -- region 7
    refine CW.region ?_
    refine RW.op1 rfl (runs_lss rfl rfl) ?_
    refine RW.done ?_
    refine AQ.next ?_
    refine CW.seq ?_
    refine CW.cond rfl (fun hc18 => ?_) (fun hc18 => ?_)
    · have hcb18 := hc18
      try simp only [decide_eq_true_eq, decide_eq_false_iff_not] at hc18
      have hj1 : j < 8 := by omega
      have hbl := crcBits_lt j (xor_lt32 hx (show c.toNat < 4294967296 by omega))
      have hsc := crcBits_succ j (crcTo bs k ^^^ c.toNat)
      generalize crcBits j (crcTo bs k ^^^ c.toNat) = y at hbl hsc ⊢
      refine CW.skip ?_
      refine AQ.next ?_
      refine CW.seq ?_
      refine CW.block ?_
      refine CW.seq ?_
      -- region 8
      refine CW.region ?_
      refine RW.op1 rfl (runs_move rfl) ?_
      refine RW.op1 rfl (runs_and rfl rfl) ?_
      rw [and1_32 hbl]
      refine RW.op1 rfl (runs_assign rfl) ?_
      refine RW.done ?_
      refine AQ.next ?_
      refine CW.seq ?_
      -- region 9
      refine CW.region ?_
      refine RW.op1 rfl (runs_move rfl) ?_
      refine RW.op1 rfl (runs_shrE (n := 1) rfl rfl (by decide)) ?_
      rw [show ((y : Nat) : Int) / 2 ^ 1 = ((y / 2 : Nat) : Int) from rfl]
      refine RW.op1 rfl (runs_assign rfl) ?_
      refine RW.done ?_
      refine AQ.next ?_
      refine CW.seq ?_
      -- region 10
      refine CW.region ?_
      refine RW.op1 rfl (runs_move rfl) ?_
      refine RW.op1 rfl (runs_eqI rfl rfl) ?_
      refine RW.done ?_
      refine AQ.next ?_
      refine CW.cond rfl (fun hc24 => ?_) (fun hc24 => ?_)
      · have hcb24 := hc24
        try simp only [decide_eq_true_eq, decide_eq_false_iff_not] at hc24
        have hcb : crcBit y = (y / 2) ^^^ polyN := by unfold crcBit; rw [if_pos (by omega)]
        -- region 11
        refine CW.region ?_
        refine RW.op1 rfl (runs_move rfl) ?_
        refine RW.op1 rfl (runs_xor (b := ((polyN : Nat) : Int)) rfl rfl) ?_
        rw [xor32 (by omega) (by decide)]
        refine RW.op1 rfl (runs_assign rfl) ?_
        refine RW.done ?_
        refine AQ.block_normal ?_
        refine AQ.next ?_
        -- region 12
        refine CW.region ?_
        refine RW.op1 rfl (runs_add rfl rfl (by omega)) ?_
        refine RW.op1 rfl (runs_move rfl) ?_
        refine RW.done ?_
        exact AQ.again (x := j) (j + 1) ⟨hst, by omega⟩ ⟨by rw [hsc, hcb]; rfl, rfl, rfl, rfl, rfl, trivial⟩ (by omega)
      · have hcb24 := hc24
        try simp only [decide_eq_true_eq, decide_eq_false_iff_not] at hc24
        have hcb : crcBit y = y / 2 := by unfold crcBit; rw [if_neg (by omega)]
        refine CW.skip ?_
        refine AQ.block_normal ?_
        refine AQ.next ?_
        -- region 12
        refine CW.region ?_
        refine RW.op1 rfl (runs_add rfl rfl (by omega)) ?_
        refine RW.op1 rfl (runs_move rfl) ?_
        refine RW.done ?_
        exact AQ.again (x := j) (j + 1) ⟨hst, by omega⟩ ⟨by rw [hsc, hcb]; rfl, rfl, rfl, rfl, rfl, trivial⟩ (by omega)
    · have hcb18 := hc18
      try simp only [decide_eq_true_eq, decide_eq_false_iff_not] at hc18
      skip
      refine CW.exit ?_
      refine AQ.past_exit ?_
      refine AQ.past_exit ?_
      refine AQ.block_hit ?_
      refine AQ.block_normal ?_
      refine AQ.next ?_
      -- region 13
      refine CW.region ?_
      refine RW.op1 rfl (runs_add rfl rfl (by omega)) ?_
      refine RW.op1 rfl (runs_move rfl) ?_
      refine RW.done ?_
      have hj8 : j = 8 := by omega
      subst hj8
      exact AQ.again (x := k) (k + 1) ⟨hst, by omega⟩ ⟨by rw [hnx]; rfl, rfl, rfl, rfl, trivial⟩ (by omega)
  · have hcb10 := hc10
    try simp only [decide_eq_true_eq, decide_eq_false_iff_not] at hc10
    skip
    refine CW.exit ?_
    refine AQ.past_exit ?_
    refine AQ.past_exit ?_
    refine AQ.block_hit ?_
    refine AQ.next ?_
    refine CW.seq ?_
    -- region 14
    refine CW.region ?_
    have hke := crcTo_end (bs := bs) (k := k) (by omega)
    have hx := crcTo_lt bs k
    rw [hke] at hx ⊢
    refine RW.op1 rfl (runs_move rfl) ?_
    refine RW.op1 rfl (runs_xor (b := ((onesN : Nat) : Int)) rfl rfl) ?_
    rw [xor32 hx (by decide)]
    refine RW.op1 rfl (runs_assign rfl) ?_
    refine RW.done ?_
    refine AQ.next ?_
    refine CW.ret ?_
    refine AQ.ret1 rfl rfl ?_
    exact ⟨rfl, hst⟩
set_option maxRecDepth 100000 in
set_option maxHeartbeats 1000000 in
theorem need_spec {w0 w : World} {I : Imm} {L : Own} (hst : St w0 w I L) {v : Value} {bs : List UInt8} (hv : RdB I v bs) (hb : bs.length ≤ 140737488355328) :
    Calls Try.prog 47 #[v] w fun e w' => e = .returned (.int .i64 ((needN bs.length : Nat) : Int)) ∧ St w0 w' I L := by
  refine enter Try.func47 rfl (N := 9) rfl rfl ?_
  simp only [List.zipIdx_cons, List.zipIdx_nil, List.map_cons, List.map_nil, Nat.zero_add, Nat.reduceAdd]
  have hle := Imm.le.refl I
  refine CW.seq ?_
  -- region 0
  refine CW.region ?_
  refine RW.op1 rfl (runs_assign rfl) ?_
  refine RW.done ?_
  refine AQ.next ?_
  refine CW.seq ?_
  -- region 1
  refine CW.region ?_
  refine RW.op1 rfl (runs_move rfl) ?_
  refine RW.op1 rfl (RdL.len Try.underlying33 rfl hv) ?_
  refine RW.op1 rfl (runs_add rfl rfl (by omega)) ?_
  refine RW.op1 rfl (runs_add rfl rfl (by omega)) ?_
  refine RW.op1 rfl (runs_sub rfl rfl (by omega)) ?_
  refine RW.op1 rfl (runs_quo rfl rfl (by omega)) ?_
  rw [show (4 + ((bs.length : Nat) : Int) + 19 - 1).tdiv 19 = ((needN bs.length : Nat) : Int) from by
    rw [show (4 + ((bs.length : Nat) : Int) + 19 - 1) = ((bs.length + 22 : Nat) : Int) by omega]
    rfl, wrap_i64 (by unfold needN; omega)]
  refine RW.op1 rfl (runs_assign rfl) ?_
  refine RW.done ?_
  refine AQ.next ?_
  refine CW.ret ?_
  refine AQ.ret1 rfl rfl ?_
  exact ⟨rfl, hst⟩
set_option maxRecDepth 100000 in
set_option maxHeartbeats 1000000 in
theorem whole_spec {w0 w : World} {I : Imm} {L : Own} (hst : St w0 w I L) {v : Value} {bs : List UInt8} (hv : RdB I v bs) (hb : bs.length ≤ 1000000) :
    Calls Try.prog 52 #[v] w fun e w' => ∃ I' v', Imm.le I I' ∧ e = .returned v' ∧ St w0 w' I' L ∧ RdB I' v' (wholeB bs) := by
  refine enter Try.func52 rfl (N := 20) rfl rfl ?_
  simp only [List.zipIdx_cons, List.zipIdx_nil, List.map_cons, List.map_nil, Nat.zero_add, Nat.reduceAdd]
  have hle := Imm.le.refl I
  refine CW.seq ?_
  -- region 0
  refine CW.region ?_
  refine RW.op1 rfl (runs_assign rfl) ?_
  refine RW.done ?_
  refine AQ.next ?_
  refine CW.seq ?_
  -- region 1
  refine CW.region ?_
  refine RW.op1 rfl (runs_move rfl) ?_
  refine RW.call rfl call53 rfl rfl (sum_spec hst hv (by omega)) ?_
  rintro e w ⟨rfl, hstn⟩
  clear hst
  have hst := hstn
  clear hstn
  have hsl := sumN_lt bs
  refine ⟨_, rfl, ?_⟩
  refine RW.op1 rfl (runs_assign rfl) ?_
  refine RW.done ?_
  refine AQ.next ?_
  refine CW.seq ?_
  -- region 2
  refine CW.region ?_
  refine RW.op1 rfl (runs_move rfl) ?_
  refine RW.op1 rfl (runs_shrE (n := 24) rfl rfl (by decide)) ?_
  refine RW.op1 rfl (runs_convB (by rw [Try.underlying88]; rfl) Try.underlying5 rfl) ?_
  refine RW.op1 rfl (runs_move rfl) ?_
  refine RW.op1 rfl (runs_shrE (n := 16) rfl rfl (by decide)) ?_
  refine RW.op1 rfl (runs_convB (by rw [Try.underlying88]; rfl) Try.underlying5 rfl) ?_
  refine RW.op1 rfl (runs_move rfl) ?_
  refine RW.op1 rfl (runs_shrE (n := 8) rfl rfl (by decide)) ?_
  refine RW.op1 rfl (runs_convB (by rw [Try.underlying88]; rfl) Try.underlying5 rfl) ?_
  refine RW.op1 rfl (runs_move rfl) ?_
  refine RW.op1 rfl (runs_convB (by rw [Try.underlying88]; rfl) Try.underlying5 rfl) ?_
  refine RW.opE rfl (runs_lit1 (xs := (sumB bs).map b8) Try.underlying33 ti5 (by decide) rfl rfl rfl (b8_one _) hst) ?_
  rintro u2 w ⟨Lv2, hstn, hg2⟩
  clear hst
  have hst := hstn
  clear hstn
  have hgS : GrowB 5 u2 (sumB bs) Lv2 := hg2
  refine RW.op1 rfl (runs_move rfl) ?_
  refine RW.opE rfl (runs_appendB Try.underlying33 ti5 rfl rfl hst hgS hv (by show 4 + bs.length ≤ _; omega)) ?_
  rintro u3 w ⟨Lv3, hstn, hg3⟩
  clear hst
  have hst := hstn
  clear hstn
  obtain ⟨J3, hJ3, hstn, h3⟩ := Grow.freeze hg3 hst
  clear hst
  have hst := hstn
  clear hstn
  replace hle := hle.trans hJ3
  try simp only [List.nil_append] at h3
  have hW := h3
  refine RW.op1 rfl (runs_assign rfl) ?_
  refine RW.done ?_
  refine AQ.next ?_
  refine CW.ret ?_
  refine AQ.ret1 rfl rfl ?_
  exact ⟨_, _, hle, rfl, hst, hW⟩
end Go.Proofs.YthocicjjighbnaaX
