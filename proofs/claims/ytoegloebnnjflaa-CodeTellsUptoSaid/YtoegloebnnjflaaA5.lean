/- Values are decoded as they were encoded; each is told by its own kind: the walk. -/
import Derived.Test.YtoegloebnnjflaaT
import Derived.Test.YtoegloebnnjflaaA4
namespace Go.Proofs.YtoegloebnnjflaaX
set_option linter.unusedVariables false
set_option linter.unusedSimpArgs false
open Go Go.RowKit Go.Proofs

def atA (av : List AV) (k : Int) : AV := if h : 0 ≤ k ∧ k < av.length then av[k.toNat]'(by omega) else .oth .nilIface
theorem atA_in {av : List AV} {k : Int} (h : 0 ≤ k ∧ k < av.length) : atA av k = av[k.toNat]'(by omega) := by unfold atA; rw [dif_pos h]
theorem atA_out {av : List AV} {k : Int} (h : ¬ (0 ≤ k ∧ k < av.length)) : atA av k = .oth .nilIface := by unfold atA; rw [dif_neg h]
theorem AV.weak {m : Nat} {o : Bool} {a : AV} (h : a.good m o) : a.good m true := by
  cases a <;> first | exact h | exact ⟨rfl, h.2⟩
theorem atA_good {m : Nat} {o : Bool} {av : List AV} (h : ∀ a ∈ av, a.good m o) (k : Int) : (atA av k).good m true := by
  by_cases hk : 0 ≤ k ∧ k < av.length
  · rw [atA_in hk]; exact AV.weak (h _ (List.getElem_mem _))
  · rw [atA_out hk]; exact ⟨rfl, rfl⟩
theorem AV.is_flg {m : Nat} {a : AV} (h : a.good m false) (h1 : asB 3 a.v = false) (h2 : asB 9 a.v = false) : ∃ t, a = .flg t := by
  cases a with
  | num n => exact absurd h1 (by simp [AV.v, asB])
  | txt b => exact absurd h2 (by simp [AV.v, asB])
  | flg t => exact ⟨t, rfl⟩
  | oth v => exact absurd h.1 (by decide)
set_option maxRecDepth 100000 in
set_option maxHeartbeats 1000000 in
theorem at_spec {w0 w : World} {I : Imm} {L : Own} (hst : St w0 w I L) {v : Value} {av : List AV} (hv : RdA I v av) (k : Int) :
    Calls Try.prog 25 #[v, .int .i64 k] w fun e w' => e = .returned (atA av k).v ∧ St w0 w' I L := by
  refine enter Try.func25 rfl (N := 17) rfl rfl ?_
  simp only [List.zipIdx_cons, List.zipIdx_nil, List.map_cons, List.map_nil, Nat.zero_add, Nat.reduceAdd]
  have hle := Imm.le.refl I
  refine CW.seq ?_
  -- region 0
  refine CW.region ?_
  refine RW.op1 rfl (runs_assign rfl) ?_
  refine RW.done ?_
  refine AQ.next ?_
  refine CW.seq ?_
  refine CW.seq ?_
  -- region 1
  refine CW.region ?_
  refine RW.op1 rfl (runs_move rfl) ?_
  refine RW.op1 rfl (runs_lss rfl rfl) ?_
  refine RW.op1 rfl (runs_move rfl) ?_
  refine RW.split (t := 7) rfl (fun hb7 => ?_) (fun hb7 => ?_)
  · have hb7p := hb7
    try simp only [decide_eq_true_eq, decide_eq_false_iff_not] at hb7p
    refine RW.off_guard rfl rfl rfl rfl hb7 ?_
    refine RW.off_guard rfl rfl rfl rfl hb7 ?_
    refine RW.off_guard rfl rfl rfl rfl hb7 ?_
    refine RW.off_guard rfl rfl rfl rfl hb7 ?_
    refine RW.op1 rfl (runs_pick_true rfl hb7 rfl) ?_
    refine RW.done ?_
    refine AQ.next ?_
    refine CW.cond_true rfl ?_
    refine CW.seq ?_
    -- region 2
    refine CW.region ?_
    refine RW.op1 rfl (runs_assign rfl) ?_
    refine RW.done ?_
    refine AQ.next ?_
    refine CW.ret ?_
    refine AQ.past_ret ?_
    refine AQ.ret1 rfl rfl ?_
    rw [atA_out (by omega)]
    exact ⟨rfl, hst⟩
  · have hb7p := hb7
    try simp only [decide_eq_true_eq, decide_eq_false_iff_not] at hb7p
    refine RW.on_guard rfl rfl rfl rfl hb7 ?_
    refine RW.op1 rfl (runs_move rfl) ?_
    refine RW.on_guard rfl rfl rfl rfl hb7 ?_
    refine RW.op1 rfl (runs_move rfl) ?_
    refine RW.on_guard rfl rfl rfl rfl hb7 ?_
    refine RW.op1 rfl (RdL.len Try.underlying23 rfl hv) ?_
    refine RW.on_guard rfl rfl rfl rfl hb7 ?_
    refine RW.op1 rfl (runs_geq rfl rfl) ?_
    refine RW.op1 rfl (runs_pick_false rfl hb7 rfl) ?_
    refine RW.done ?_
    refine AQ.next ?_
    refine CW.cond rfl (fun hc12 => ?_) (fun hc12 => ?_)
    · have hcb12 := hc12
      try simp only [decide_eq_true_eq, decide_eq_false_iff_not] at hc12
      refine CW.seq ?_
      -- region 2
      refine CW.region ?_
      refine RW.op1 rfl (runs_assign rfl) ?_
      refine RW.done ?_
      refine AQ.next ?_
      refine CW.ret ?_
      refine AQ.past_ret ?_
      refine AQ.ret1 rfl rfl ?_
      rw [atA_out (by omega)]
      exact ⟨rfl, hst⟩
    · have hcb12 := hc12
      try simp only [decide_eq_true_eq, decide_eq_false_iff_not] at hc12
      refine CW.skip ?_
      refine AQ.next ?_
      refine CW.seq ?_
      -- region 3
      refine CW.region ?_
      refine RW.op1 rfl (runs_move rfl) ?_
      refine RW.op1 rfl (runs_move rfl) ?_
      refine RW.op1 rfl (RdL.indexAddr Try.underlying23 ti20 (by decide) rfl rfl hv (by omega)) ?_
      refine RW.op1 rfl (runs_load1 sc20 rfl (hst.cell_imm (RdA.at hv (by omega) (by omega)))) ?_
      refine RW.op1 rfl (runs_assign rfl) ?_
      refine RW.done ?_
      refine AQ.next ?_
      refine CW.ret ?_
      refine AQ.ret1 rfl rfl ?_
      rw [atA_in (by omega)]
      exact ⟨rfl, hst⟩
set_option maxRecDepth 100000 in
set_option maxHeartbeats 1000000 in
theorem int_spec {w0 w : World} {I : Imm} {L : Own} (hst : St w0 w I L) {v : Value} {av : List AV} {m : Nat} {o : Bool} (hv : RdA I v av) (hgood : ∀ a ∈ av, a.good m o) (k : Int) :
    Calls Try.prog 15 #[v, .int .i64 k] w fun e w' => e = .returned (.tuple #[asV 3 (.int .i64 0) (atA av k).v, .bool (asB 3 (atA av k).v)]) ∧ St w0 w' I L := by
  refine enter Try.func15 rfl (N := 17) rfl rfl ?_
  simp only [List.zipIdx_cons, List.zipIdx_nil, List.map_cons, List.map_nil, Nat.zero_add, Nat.reduceAdd]
  have hle := Imm.le.refl I
  refine CW.seq ?_
  -- region 0
  refine CW.region ?_
  refine RW.op1 rfl (runs_assign rfl) ?_
  refine RW.op1 rfl (runs_assign rfl) ?_
  refine RW.done ?_
  refine AQ.next ?_
  refine CW.seq ?_
  -- region 1
  refine CW.region ?_
  refine RW.op1 rfl (runs_move rfl) ?_
  refine RW.op1 rfl (runs_move rfl) ?_
  refine RW.call rfl call25 rfl rfl (at_spec hst hv k) ?_
  rintro e w ⟨rfl, hstn⟩
  clear hst
  have hst := hstn
  clear hstn
  have hisI := AV.isI (atA_good hgood k)
  refine ⟨_, rfl, ?_⟩
  refine RW.op1 rfl (runs_assertOk con3 ti3 rfl (by first | rfl | assumption)) ?_
  refine RW.op1 rfl (runs_move rfl) ?_
  refine RW.op1 rfl (runs_extract rfl rfl) ?_
  refine RW.op1 rfl (runs_extract rfl rfl) ?_
  refine RW.op1 rfl (runs_assign rfl) ?_
  refine RW.op1 rfl (runs_assign rfl) ?_
  refine RW.done ?_
  refine AQ.next ?_
  refine CW.seq ?_
  -- region 2
  refine CW.region ?_
  refine RW.op1 rfl (runs_move rfl) ?_
  refine RW.op1 rfl (runs_move rfl) ?_
  refine RW.op1 rfl (runs_assign rfl) ?_
  refine RW.op1 rfl (runs_assign rfl) ?_
  refine RW.done ?_
  refine AQ.next ?_
  refine CW.ret ?_
  refine AQ.ret2 rfl rfl rfl ?_
  exact ⟨rfl, hst⟩
set_option maxRecDepth 100000 in
set_option maxHeartbeats 1000000 in
theorem text__spec {w0 w : World} {I : Imm} {L : Own} (hst : St w0 w I L) {v : Value} {av : List AV} {m : Nat} {o : Bool} (hv : RdA I v av) (hgood : ∀ a ∈ av, a.good m o) (k : Int) :
    Calls Try.prog 16 #[v, .int .i64 k] w fun e w' => e = .returned (.tuple #[asV 9 (.string ⟨#[]⟩) (atA av k).v, .bool (asB 9 (atA av k).v)]) ∧ St w0 w' I L := by
  refine enter Try.func16 rfl (N := 17) rfl rfl ?_
  simp only [List.zipIdx_cons, List.zipIdx_nil, List.map_cons, List.map_nil, Nat.zero_add, Nat.reduceAdd]
  have hle := Imm.le.refl I
  refine CW.seq ?_
  -- region 0
  refine CW.region ?_
  refine RW.op1 rfl (runs_assign rfl) ?_
  refine RW.op1 rfl (runs_assign rfl) ?_
  refine RW.done ?_
  refine AQ.next ?_
  refine CW.seq ?_
  -- region 1
  refine CW.region ?_
  refine RW.op1 rfl (runs_move rfl) ?_
  refine RW.op1 rfl (runs_move rfl) ?_
  refine RW.call rfl call25 rfl rfl (at_spec hst hv k) ?_
  rintro e w ⟨rfl, hstn⟩
  clear hst
  have hst := hstn
  clear hstn
  have hisI := AV.isI (atA_good hgood k)
  refine ⟨_, rfl, ?_⟩
  refine RW.op1 rfl (runs_assertOk con9 ti9 rfl (by first | rfl | assumption)) ?_
  refine RW.op1 rfl (runs_move rfl) ?_
  refine RW.op1 rfl (runs_extract rfl rfl) ?_
  refine RW.op1 rfl (runs_extract rfl rfl) ?_
  refine RW.op1 rfl (runs_assign rfl) ?_
  refine RW.op1 rfl (runs_assign rfl) ?_
  refine RW.done ?_
  refine AQ.next ?_
  refine CW.seq ?_
  -- region 2
  refine CW.region ?_
  refine RW.op1 rfl (runs_move rfl) ?_
  refine RW.op1 rfl (runs_move rfl) ?_
  refine RW.op1 rfl (runs_assign rfl) ?_
  refine RW.op1 rfl (runs_assign rfl) ?_
  refine RW.done ?_
  refine AQ.next ?_
  refine CW.ret ?_
  refine AQ.ret2 rfl rfl rfl ?_
  exact ⟨rfl, hst⟩
set_option maxRecDepth 100000 in
set_option maxHeartbeats 1000000 in
theorem flag_spec {w0 w : World} {I : Imm} {L : Own} (hst : St w0 w I L) {v : Value} {av : List AV} {m : Nat} {o : Bool} (hv : RdA I v av) (hgood : ∀ a ∈ av, a.good m o) (k : Int) :
    Calls Try.prog 22 #[v, .int .i64 k] w fun e w' => e = .returned (.tuple #[asV 4 (.bool false) (atA av k).v, .bool (asB 4 (atA av k).v)]) ∧ St w0 w' I L := by
  refine enter Try.func22 rfl (N := 17) rfl rfl ?_
  simp only [List.zipIdx_cons, List.zipIdx_nil, List.map_cons, List.map_nil, Nat.zero_add, Nat.reduceAdd]
  have hle := Imm.le.refl I
  refine CW.seq ?_
  -- region 0
  refine CW.region ?_
  refine RW.op1 rfl (runs_assign rfl) ?_
  refine RW.op1 rfl (runs_assign rfl) ?_
  refine RW.done ?_
  refine AQ.next ?_
  refine CW.seq ?_
  -- region 1
  refine CW.region ?_
  refine RW.op1 rfl (runs_move rfl) ?_
  refine RW.op1 rfl (runs_move rfl) ?_
  refine RW.call rfl call25 rfl rfl (at_spec hst hv k) ?_
  rintro e w ⟨rfl, hstn⟩
  clear hst
  have hst := hstn
  clear hstn
  have hisI := AV.isI (atA_good hgood k)
  refine ⟨_, rfl, ?_⟩
  refine RW.op1 rfl (runs_assertOk con4 ti4 rfl (by first | rfl | assumption)) ?_
  refine RW.op1 rfl (runs_move rfl) ?_
  refine RW.op1 rfl (runs_extract rfl rfl) ?_
  refine RW.op1 rfl (runs_extract rfl rfl) ?_
  refine RW.op1 rfl (runs_assign rfl) ?_
  refine RW.op1 rfl (runs_assign rfl) ?_
  refine RW.done ?_
  refine AQ.next ?_
  refine CW.seq ?_
  -- region 2
  refine CW.region ?_
  refine RW.op1 rfl (runs_move rfl) ?_
  refine RW.op1 rfl (runs_move rfl) ?_
  refine RW.op1 rfl (runs_assign rfl) ?_
  refine RW.op1 rfl (runs_assign rfl) ?_
  refine RW.done ?_
  refine AQ.next ?_
  refine CW.ret ?_
  refine AQ.ret2 rfl rfl rfl ?_
  exact ⟨rfl, hst⟩
set_option maxRecDepth 100000 in
set_option maxHeartbeats 1000000 in
theorem mustint_spec {w0 w : World} {I : Imm} {L : Own} (hst : St w0 w I L) {v : Value} {av : List AV} (hv : RdA I v av) (k : Int) (n : Int) (h : atA av k = .num n) :
    Calls Try.prog 23 #[v, .int .i64 k] w fun e w' => e = .returned (.int .i64 n) ∧ St w0 w' I L := by
  refine enter Try.func23 rfl (N := 9) rfl rfl ?_
  simp only [List.zipIdx_cons, List.zipIdx_nil, List.map_cons, List.map_nil, Nat.zero_add, Nat.reduceAdd]
  have hle := Imm.le.refl I
  refine CW.seq ?_
  -- region 0
  refine CW.region ?_
  refine RW.op1 rfl (runs_assign rfl) ?_
  refine RW.done ?_
  refine AQ.next ?_
  refine CW.seq ?_
  -- region 1
  refine CW.region ?_
  refine RW.op1 rfl (runs_move rfl) ?_
  refine RW.op1 rfl (runs_move rfl) ?_
  refine RW.call rfl call25 rfl rfl (at_spec hst hv k) ?_
  rintro e w ⟨rfl, hstn⟩
  clear hst
  have hst := hstn
  clear hstn
  rw [h]
  refine ⟨_, rfl, ?_⟩
  refine RW.op1 rfl (runs_assertV con3 rfl) ?_
  refine RW.op1 rfl (runs_assign rfl) ?_
  refine RW.done ?_
  refine AQ.next ?_
  refine CW.ret ?_
  refine AQ.ret1 rfl rfl ?_
  exact ⟨rfl, hst⟩
set_option maxRecDepth 100000 in
set_option maxHeartbeats 1000000 in
theorem musttext_spec {w0 w : World} {I : Imm} {L : Own} (hst : St w0 w I L) {v : Value} {av : List AV} (hv : RdA I v av) (k : Int) (n : ByteArray) (h : atA av k = .txt n) :
    Calls Try.prog 24 #[v, .int .i64 k] w fun e w' => e = .returned (.string n) ∧ St w0 w' I L := by
  refine enter Try.func24 rfl (N := 9) rfl rfl ?_
  simp only [List.zipIdx_cons, List.zipIdx_nil, List.map_cons, List.map_nil, Nat.zero_add, Nat.reduceAdd]
  have hle := Imm.le.refl I
  refine CW.seq ?_
  -- region 0
  refine CW.region ?_
  refine RW.op1 rfl (runs_assign rfl) ?_
  refine RW.done ?_
  refine AQ.next ?_
  refine CW.seq ?_
  -- region 1
  refine CW.region ?_
  refine RW.op1 rfl (runs_move rfl) ?_
  refine RW.op1 rfl (runs_move rfl) ?_
  refine RW.call rfl call25 rfl rfl (at_spec hst hv k) ?_
  rintro e w ⟨rfl, hstn⟩
  clear hst
  have hst := hstn
  clear hstn
  rw [h]
  refine ⟨_, rfl, ?_⟩
  refine RW.op1 rfl (runs_assertV con9 rfl) ?_
  refine RW.op1 rfl (runs_assign rfl) ?_
  refine RW.done ?_
  refine AQ.next ?_
  refine CW.ret ?_
  refine AQ.ret1 rfl rfl ?_
  exact ⟨rfl, hst⟩
set_option maxRecDepth 100000 in
set_option maxHeartbeats 1000000 in
theorem cback_spec {w0 w : World} {I : Imm} {L : Own} (hst : St w0 w I L) {vl : Value} {xl : List Int} (hl : RdI I vl xl) (hxl : ∀ n ∈ xl, i64ok n) (hll : xl.length ≤ 9223372036854775807) (s : ByteArray) (k : Int) (hk : i64ok k) :
    Calls Try.prog 7 #[vl, .string s, .int .i64 k] w fun e w' => e = .returned (.bool true) ∧ ∃ I', I.le I' ∧ St w0 w' I' L := by
  refine enter Try.func7 rfl (N := 185) rfl rfl ?_
  simp only [List.zipIdx_cons, List.zipIdx_nil, List.map_cons, List.map_nil, Nat.zero_add, Nat.reduceAdd]
  have hle := Imm.le.refl I
  refine CW.seq ?_
  -- region 0
  refine CW.region ?_
  refine RW.op1 rfl (runs_assign rfl) ?_
  refine RW.done ?_
  refine AQ.next ?_
  refine CW.seq ?_
  -- region 1
  refine CW.region ?_
  refine RW.op1 rfl (runs_move rfl) ?_
  refine RW.op1 rfl (runs_move rfl) ?_
  refine RW.call rfl call9 rfl rfl (text_spec hst s (n := 200) (by decide)) ?_
  rintro e w ⟨s1, rfl, hs1, hstn⟩
  clear hst
  have hst := hstn
  clear hstn
  have hz1 : s1.size ≤ 200 := by rw [← size_toList, hs1, List.length_take]; show min 200 _ ≤ 200; omega
  refine ⟨_, rfl, ?_⟩
  refine RW.call rfl call8 rfl rfl (values_spec hst hl hxl hll s1 (by omega) 0 (by unfold i64ok; omega) false (fun _ => by decide)) ?_
  rintro e w ⟨I2, va, av, hI2, rfl, hstn, hA, hga, hal⟩
  clear hst
  have hst := hstn
  clear hstn
  have hMa : max 255 (s1.size + 1) = 255 := by omega
  rw [hMa] at hga
  have hoa := good_encOk hga (by decide)
  have hel := encA_le hoa
  replace hle := hle.trans hI2
  refine ⟨_, rfl, ?_⟩
  refine RW.op1 rfl (runs_assign rfl) ?_
  refine RW.done ?_
  refine AQ.next ?_
  refine CW.seq ?_
  -- region 2
  refine CW.region ?_
  refine RW.op1 rfl (runs_move rfl) ?_
  refine RW.call rfl call10 rfl rfl (enc_spec (av := av) (m := 255) (o := false) hst hA hga (by omega)) ?_
  rintro e w ⟨I3, vX, hI3, rfl, hstn, hX⟩
  clear hst
  have hst := hstn
  clear hstn
  rw [hoa] at hX ⊢; simp only [if_true] at hX ⊢
  replace hA := hA.mono hI3
  replace hle := hle.trans hI3
  refine ⟨_, rfl, ?_⟩
  refine RW.op1 rfl (runs_move rfl) ?_
  refine RW.op1 rfl (runs_extract rfl rfl) ?_
  refine RW.op1 rfl (runs_extract rfl rfl) ?_
  refine RW.op1 rfl (runs_assign rfl) ?_
  refine RW.op1 rfl (runs_assign rfl) ?_
  refine RW.done ?_
  refine AQ.next ?_
  refine CW.seq ?_
  -- region 3
  refine CW.region ?_
  refine RW.op1 rfl (runs_move rfl) ?_
  refine RW.call rfl call18 rfl rfl (dec_spec hst hX (by omega)) ?_
  rintro e w ⟨IW, vW, hI4, rfl, hstn, hW⟩
  clear hst
  have hst := hstn
  clear hstn
  rw [decA_encA (Nat.le_refl 255) hga] at hW ⊢
  simp only [Option.isSome_some, Option.getD_some, if_true] at hW ⊢
  replace hA := hA.mono hI4
  replace hX := hX.mono hI4
  replace hle := hle.trans hI4
  refine ⟨_, rfl, ?_⟩
  refine RW.op1 rfl (runs_move rfl) ?_
  refine RW.op1 rfl (runs_extract rfl rfl) ?_
  refine RW.op1 rfl (runs_extract rfl rfl) ?_
  refine RW.op1 rfl (runs_assign rfl) ?_
  refine RW.op1 rfl (runs_assign rfl) ?_
  refine RW.done ?_
  refine AQ.next ?_
  refine CW.seq ?_
  refine CW.seq ?_
  -- region 4
  refine CW.region ?_
  refine RW.op1 rfl (runs_move rfl) ?_
  refine RW.op1 rfl (runs_neI rfl rfl) ?_
  refine RW.op1 rfl (runs_move rfl) ?_
  have hk37 := (show decide ((0 : Int) ≠ 0) = false from by decide)
  refine RW.on_guard rfl rfl rfl rfl hk37 ?_
  refine RW.op1 rfl (runs_move rfl) ?_
  refine RW.on_guard rfl rfl rfl rfl hk37 ?_
  refine RW.op1 rfl (runs_neI rfl rfl) ?_
  refine RW.op1 rfl (runs_pick_false rfl hk37 rfl) ?_
  refine RW.op1 rfl (runs_move rfl) ?_
  have hk41 := (show decide ((0 : Int) ≠ 0) = false from by decide)
  refine RW.on_guard rfl rfl rfl rfl hk41 ?_
  refine RW.op1 rfl (runs_move rfl) ?_
  refine RW.on_guard rfl rfl rfl rfl hk41 ?_
  refine RW.op1 rfl (RdL.len Try.underlying23 rfl hW) ?_
  refine RW.on_guard rfl rfl rfl rfl hk41 ?_
  refine RW.op1 rfl (runs_move rfl) ?_
  refine RW.on_guard rfl rfl rfl rfl hk41 ?_
  refine RW.op1 rfl (RdL.len Try.underlying23 rfl hA) ?_
  refine RW.on_guard rfl rfl rfl rfl hk41 ?_
  refine RW.op1 rfl (runs_neI rfl rfl) ?_
  refine RW.op1 rfl (runs_pick_false rfl hk41 rfl) ?_
  refine RW.done ?_
  refine AQ.next ?_
  refine CW.cond rfl (fun hc => absurd hc (by simp)) (fun hc => ?_)
  refine CW.skip ?_
  refine AQ.next ?_
  refine CW.seq ?_
  refine CW.seq ?_
  -- region 6
  refine CW.region ?_
  refine RW.op1 rfl (runs_move rfl) ?_
  refine RW.op1 rfl (runs_rem rfl rfl (by decide)) ?_
  refine RW.op1 rfl (runs_gtr rfl rfl) ?_
  refine RW.done ?_
  refine AQ.next ?_
  refine CW.cut Int (fun y w => St w0 w IW L ∧ i64ok y) (fun y => [(2, .int .i64 y), (7, va), (10, vW)]) ?_ ?_
  · refine CW.cond rfl (fun hc50 => ?_) (fun hc50 => ?_)
    · have hcb50 := hc50
      try simp only [decide_eq_true_eq, decide_eq_false_iff_not] at hc50
      -- region 7
      refine CW.region ?_
      refine RW.op1 rfl (runs_move rfl) ?_
      refine RW.op1 rfl (runs_move rfl) ?_
      refine RW.op1 rfl (RdL.len Try.underlying23 rfl hA) ?_
      refine RW.op1 rfl (runs_add rfl rfl (by omega)) ?_
      refine RW.call rfl call14 rfl rfl (within_spec hst hk (by unfold i64ok; omega)) ?_
      rintro e w ⟨rfl, hstn⟩
      clear hst
      have hst := hstn
      clear hstn
      have hy2 : i64ok (within k ((av.length : Int) + 1)) := by
        have := within_range k ((av.length : Int) + 1)
        unfold i64ok; omega
      refine ⟨_, rfl, ?_⟩
      refine RW.op1 rfl (runs_assign rfl) ?_
      refine RW.done ?_
      exact AQ.meet _ ⟨hst, by assumption⟩ ⟨rfl, rfl, rfl, trivial⟩
    · have hcb50 := hc50
      try simp only [decide_eq_true_eq, decide_eq_false_iff_not] at hc50
      refine CW.skip ?_
      exact AQ.meet _ ⟨hst, by assumption⟩ ⟨rfl, rfl, rfl, trivial⟩
  · rintro y w ⟨hstn, hy⟩
    clear hst
    have hst := hstn
    clear hstn
    refine AQ.next ?_
    refine CW.seq ?_
    -- region 8
    refine CW.region ?_
    refine RW.op1 rfl (runs_move rfl) ?_
    refine RW.op1 rfl (runs_move rfl) ?_
    refine RW.call rfl call15 rfl rfl (int_spec hst hW hga y) ?_
    rintro e w ⟨rfl, hstn⟩
    clear hst
    have hst := hstn
    clear hstn
    refine ⟨_, rfl, ?_⟩
    refine RW.op1 rfl (runs_move rfl) ?_
    refine RW.op1 rfl (runs_extract rfl rfl) ?_
    refine RW.op1 rfl (runs_extract rfl rfl) ?_
    refine RW.op1 rfl (runs_assign rfl) ?_
    refine RW.op1 rfl (runs_assign rfl) ?_
    refine RW.done ?_
    refine AQ.next ?_
    refine CW.seq ?_
    -- region 9
    refine CW.region ?_
    refine RW.op1 rfl (runs_move rfl) ?_
    refine RW.op1 rfl (runs_move rfl) ?_
    refine RW.call rfl call16 rfl rfl (text__spec hst hW hga y) ?_
    rintro e w ⟨rfl, hstn⟩
    clear hst
    have hst := hstn
    clear hstn
    refine ⟨_, rfl, ?_⟩
    refine RW.op1 rfl (runs_move rfl) ?_
    refine RW.op1 rfl (runs_extract rfl rfl) ?_
    refine RW.op1 rfl (runs_extract rfl rfl) ?_
    refine RW.op1 rfl (runs_assign rfl) ?_
    refine RW.op1 rfl (runs_assign rfl) ?_
    refine RW.done ?_
    refine AQ.next ?_
    refine CW.seq ?_
    -- region 10
    refine CW.region ?_
    refine RW.op1 rfl (runs_move rfl) ?_
    refine RW.op1 rfl (runs_move rfl) ?_
    refine RW.call rfl call22 rfl rfl (flag_spec hst hW hga y) ?_
    rintro e w ⟨rfl, hstn⟩
    clear hst
    have hst := hstn
    clear hstn
    refine ⟨_, rfl, ?_⟩
    refine RW.op1 rfl (runs_move rfl) ?_
    refine RW.op1 rfl (runs_extract rfl rfl) ?_
    refine RW.op1 rfl (runs_extract rfl rfl) ?_
    refine RW.op1 rfl (runs_assign rfl) ?_
    refine RW.op1 rfl (runs_assign rfl) ?_
    refine RW.done ?_
    refine AQ.next ?_
    refine CW.seq ?_
    refine CW.seq ?_
    -- region 11
    refine CW.region ?_
    refine RW.op1 rfl (runs_move rfl) ?_
    refine RW.op1 rfl (runs_lss rfl rfl) ?_
    refine RW.op1 rfl (runs_move rfl) ?_
    refine RW.split (t := 76) rfl (fun hb76 => ?_) (fun hb76 => ?_)
    · have hb76p := hb76
      try simp only [decide_eq_true_eq, decide_eq_false_iff_not] at hb76p
      refine RW.off_guard rfl rfl rfl rfl hb76 ?_
      refine RW.off_guard rfl rfl rfl rfl hb76 ?_
      refine RW.off_guard rfl rfl rfl rfl hb76 ?_
      refine RW.off_guard rfl rfl rfl rfl hb76 ?_
      refine RW.op1 rfl (runs_pick_true rfl hb76 rfl) ?_
      refine RW.done ?_
      refine AQ.next ?_
      rw [atA_out (by omega)]
      refine CW.cond_true rfl ?_
      refine CW.seq ?_
      -- region 12
      refine CW.region ?_
      refine RW.op1 rfl (runs_move rfl) ?_
      refine RW.op1 rfl (runs_not rfl) ?_
      refine RW.op1 rfl (runs_move rfl) ?_
      have hk84 := (show (!asB 3 (AV.oth .nilIface).v) = true from rfl)
      refine RW.on_guard rfl rfl rfl rfl hk84 ?_
      refine RW.op1 rfl (runs_move rfl) ?_
      refine RW.on_guard rfl rfl rfl rfl hk84 ?_
      refine RW.op1 rfl (runs_not rfl) ?_
      refine RW.op1 rfl (runs_pick_true rfl hk84 rfl) ?_
      refine RW.op1 rfl (runs_move rfl) ?_
      have hk88 := (show (!asB 9 (AV.oth .nilIface).v) = true from rfl)
      refine RW.on_guard rfl rfl rfl rfl hk88 ?_
      refine RW.op1 rfl (runs_move rfl) ?_
      refine RW.on_guard rfl rfl rfl rfl hk88 ?_
      refine RW.op1 rfl (runs_not rfl) ?_
      refine RW.op1 rfl (runs_pick_true rfl hk88 rfl) ?_
      refine RW.op1 rfl (runs_move rfl) ?_
      have hk92 := (show (!asB 4 (AV.oth .nilIface).v) = true from rfl)
      refine RW.on_guard rfl rfl rfl rfl hk92 ?_
      refine RW.op1 rfl (runs_move rfl) ?_
      refine RW.on_guard rfl rfl rfl rfl hk92 ?_
      refine RW.op1 rfl (runs_eqI rfl rfl) ?_
      refine RW.op1 rfl (runs_pick_true rfl hk92 rfl) ?_
      refine RW.op1 rfl (runs_move rfl) ?_
      have hk96 := (show decide ((0 : Int) = 0) = true from by decide)
      refine RW.on_guard rfl rfl rfl rfl hk96 ?_
      refine RW.op1 rfl (runs_move rfl) ?_
      refine RW.on_guard rfl rfl rfl rfl hk96 ?_
      refine RW.op1 rfl (runs_eqS rfl rfl) ?_
      refine RW.op1 rfl (runs_pick_true rfl hk96 rfl) ?_
      refine RW.op1 rfl (runs_move rfl) ?_
      have hk100 := (show ((⟨#[]⟩ : ByteArray).toList == (⟨#[]⟩ : ByteArray).toList) = true by simp)
      refine RW.on_guard rfl rfl rfl rfl hk100 ?_
      refine RW.op1 rfl (runs_move rfl) ?_
      refine RW.on_guard rfl rfl rfl rfl hk100 ?_
      refine RW.op1 rfl (runs_not rfl) ?_
      refine RW.op1 rfl (runs_pick_true rfl hk100 rfl) ?_
      refine RW.op1 rfl (runs_move rfl) ?_
      have hk104 := (show (!false) = true from rfl)
      refine RW.on_guard rfl rfl rfl rfl hk104 ?_
      refine RW.call rfl call13 rfl rfl (wakes_spec hst) ?_
      rintro e w ⟨rfl, I9, hI9, hstn⟩
      clear hst
      have hst := hstn
      clear hstn
      replace hA := hA.mono hI9
      replace hW := hW.mono hI9
      replace hle := hle.trans hI9
      refine ⟨_, rfl, ?_⟩
      refine RW.op1 rfl (runs_pick_true rfl hk104 rfl) ?_
      refine RW.op1 rfl (runs_assign rfl) ?_
      refine RW.done ?_
      refine AQ.next ?_
      refine CW.ret ?_
      refine AQ.past_ret ?_
      refine AQ.ret1 rfl rfl ?_
      exact ⟨rfl, _, hle, hst⟩
    · have hb76p := hb76
      try simp only [decide_eq_true_eq, decide_eq_false_iff_not] at hb76p
      refine RW.on_guard rfl rfl rfl rfl hb76 ?_
      refine RW.op1 rfl (runs_move rfl) ?_
      refine RW.on_guard rfl rfl rfl rfl hb76 ?_
      refine RW.op1 rfl (runs_move rfl) ?_
      refine RW.on_guard rfl rfl rfl rfl hb76 ?_
      refine RW.op1 rfl (RdL.len Try.underlying23 rfl hA) ?_
      refine RW.on_guard rfl rfl rfl rfl hb76 ?_
      refine RW.op1 rfl (runs_geq rfl rfl) ?_
      refine RW.op1 rfl (runs_pick_false rfl hb76 rfl) ?_
      refine RW.done ?_
      refine AQ.next ?_
      refine CW.cond rfl (fun hc81 => ?_) (fun hc81 => ?_)
      · have hcb81 := hc81
        try simp only [decide_eq_true_eq, decide_eq_false_iff_not] at hc81
        rw [atA_out (by omega)]
        refine CW.seq ?_
        -- region 12
        refine CW.region ?_
        refine RW.op1 rfl (runs_move rfl) ?_
        refine RW.op1 rfl (runs_not rfl) ?_
        refine RW.op1 rfl (runs_move rfl) ?_
        have hk84 := (show (!asB 3 (AV.oth .nilIface).v) = true from rfl)
        refine RW.on_guard rfl rfl rfl rfl hk84 ?_
        refine RW.op1 rfl (runs_move rfl) ?_
        refine RW.on_guard rfl rfl rfl rfl hk84 ?_
        refine RW.op1 rfl (runs_not rfl) ?_
        refine RW.op1 rfl (runs_pick_true rfl hk84 rfl) ?_
        refine RW.op1 rfl (runs_move rfl) ?_
        have hk88 := (show (!asB 9 (AV.oth .nilIface).v) = true from rfl)
        refine RW.on_guard rfl rfl rfl rfl hk88 ?_
        refine RW.op1 rfl (runs_move rfl) ?_
        refine RW.on_guard rfl rfl rfl rfl hk88 ?_
        refine RW.op1 rfl (runs_not rfl) ?_
        refine RW.op1 rfl (runs_pick_true rfl hk88 rfl) ?_
        refine RW.op1 rfl (runs_move rfl) ?_
        have hk92 := (show (!asB 4 (AV.oth .nilIface).v) = true from rfl)
        refine RW.on_guard rfl rfl rfl rfl hk92 ?_
        refine RW.op1 rfl (runs_move rfl) ?_
        refine RW.on_guard rfl rfl rfl rfl hk92 ?_
        refine RW.op1 rfl (runs_eqI rfl rfl) ?_
        refine RW.op1 rfl (runs_pick_true rfl hk92 rfl) ?_
        refine RW.op1 rfl (runs_move rfl) ?_
        have hk96 := (show decide ((0 : Int) = 0) = true from by decide)
        refine RW.on_guard rfl rfl rfl rfl hk96 ?_
        refine RW.op1 rfl (runs_move rfl) ?_
        refine RW.on_guard rfl rfl rfl rfl hk96 ?_
        refine RW.op1 rfl (runs_eqS rfl rfl) ?_
        refine RW.op1 rfl (runs_pick_true rfl hk96 rfl) ?_
        refine RW.op1 rfl (runs_move rfl) ?_
        have hk100 := (show ((⟨#[]⟩ : ByteArray).toList == (⟨#[]⟩ : ByteArray).toList) = true by simp)
        refine RW.on_guard rfl rfl rfl rfl hk100 ?_
        refine RW.op1 rfl (runs_move rfl) ?_
        refine RW.on_guard rfl rfl rfl rfl hk100 ?_
        refine RW.op1 rfl (runs_not rfl) ?_
        refine RW.op1 rfl (runs_pick_true rfl hk100 rfl) ?_
        refine RW.op1 rfl (runs_move rfl) ?_
        have hk104 := (show (!false) = true from rfl)
        refine RW.on_guard rfl rfl rfl rfl hk104 ?_
        refine RW.call rfl call13 rfl rfl (wakes_spec hst) ?_
        rintro e w ⟨rfl, I10, hI10, hstn⟩
        clear hst
        have hst := hstn
        clear hstn
        replace hA := hA.mono hI10
        replace hW := hW.mono hI10
        replace hle := hle.trans hI10
        refine ⟨_, rfl, ?_⟩
        refine RW.op1 rfl (runs_pick_true rfl hk104 rfl) ?_
        refine RW.op1 rfl (runs_assign rfl) ?_
        refine RW.done ?_
        refine AQ.next ?_
        refine CW.ret ?_
        refine AQ.past_ret ?_
        refine AQ.ret1 rfl rfl ?_
        exact ⟨rfl, _, hle, hst⟩
      · have hcb81 := hc81
        try simp only [decide_eq_true_eq, decide_eq_false_iff_not] at hc81
        have hin : 0 ≤ y ∧ y < av.length := by omega
        obtain ⟨a, ha⟩ : ∃ a, av[y.toNat]'(by omega) = a := ⟨_, rfl⟩
        have hat : atA av y = a := by rw [atA_in hin]; exact ha
        rw [hat]
        have hga1 : a.good 255 false := by rw [← ha]; exact hga _ (List.getElem_mem _)
        have hcell := RdA.at hA hin.1 hin.2
        rw [ha] at hcell
        have hisI := AV.isI hga1
        refine CW.skip ?_
        refine AQ.next ?_
        refine CW.seq ?_
        refine CW.seq ?_
        -- region 13
        refine CW.region ?_
        refine RW.op1 rfl (runs_move rfl) ?_
        refine RW.op1 rfl (runs_move rfl) ?_
        refine RW.op1 rfl (RdL.indexAddr Try.underlying23 ti20 (by decide) rfl rfl hA (by omega)) ?_
        refine RW.op1 rfl (runs_load1 sc20 rfl (hst.cell_imm hcell)) ?_
        refine RW.done ?_
        refine AQ.next ?_
        refine CW.block ?_
        refine CW.seq ?_
        -- region 14
        refine CW.region ?_
        refine RW.op1 rfl (runs_assertOk con3 ti3 rfl (by first | rfl | assumption)) ?_
        refine RW.op1 rfl (runs_extract rfl rfl) ?_
        refine RW.op1 rfl (runs_extract rfl rfl) ?_
        refine RW.done ?_
        refine AQ.next ?_
        refine CW.cond rfl (fun hc112 => ?_) (fun hc112 => ?_)
        · have hcb112 := hc112
          try simp only [decide_eq_true_eq, decide_eq_false_iff_not] at hc112
          obtain ⟨n, rfl⟩ := AV.asB_num hga1 hcb112
          refine CW.seq ?_
          -- region 15
          refine CW.region ?_
          refine RW.op1 rfl (runs_assign rfl) ?_
          refine RW.done ?_
          refine AQ.next ?_
          refine CW.seq ?_
          -- region 16
          refine CW.region ?_
          refine RW.op1 rfl (runs_move rfl) ?_
          refine RW.op1 rfl (runs_move rfl) ?_
          have hk115 := (show asB 3 (AV.num n).v = true from rfl)
          refine RW.on_guard rfl rfl rfl rfl hk115 ?_
          refine RW.op1 rfl (runs_move rfl) ?_
          refine RW.on_guard rfl rfl rfl rfl hk115 ?_
          refine RW.op1 rfl (runs_move rfl) ?_
          refine RW.on_guard rfl rfl rfl rfl hk115 ?_
          refine RW.op1 rfl (runs_eqI rfl rfl) ?_
          refine RW.op1 rfl (runs_pick_true rfl hk115 rfl) ?_
          refine RW.op1 rfl (runs_move rfl) ?_
          have hk120 := (show decide (n = n) = true by simp)
          refine RW.on_guard rfl rfl rfl rfl hk120 ?_
          refine RW.op1 rfl (runs_move rfl) ?_
          refine RW.on_guard rfl rfl rfl rfl hk120 ?_
          refine RW.op1 rfl (runs_not rfl) ?_
          refine RW.op1 rfl (runs_pick_true rfl hk120 rfl) ?_
          refine RW.op1 rfl (runs_move rfl) ?_
          have hk124 := (show (!asB 9 (AV.num n).v) = true from rfl)
          refine RW.on_guard rfl rfl rfl rfl hk124 ?_
          refine RW.op1 rfl (runs_move rfl) ?_
          refine RW.on_guard rfl rfl rfl rfl hk124 ?_
          refine RW.op1 rfl (runs_not rfl) ?_
          refine RW.op1 rfl (runs_pick_true rfl hk124 rfl) ?_
          refine RW.op1 rfl (runs_move rfl) ?_
          have hk128 := (show (!asB 4 (AV.num n).v) = true from rfl)
          refine RW.on_guard rfl rfl rfl rfl hk128 ?_
          refine RW.op1 rfl (runs_move rfl) ?_
          refine RW.on_guard rfl rfl rfl rfl hk128 ?_
          refine RW.op1 rfl (runs_move rfl) ?_
          refine RW.on_guard rfl rfl rfl rfl hk128 ?_
          refine RW.call rfl call23 rfl rfl (mustint_spec hst hW y n hat) ?_
          rintro e w ⟨rfl, hstn⟩
          clear hst
          have hst := hstn
          clear hstn
          refine ⟨_, rfl, ?_⟩
          refine RW.on_guard rfl rfl rfl rfl hk128 ?_
          refine RW.op1 rfl (runs_move rfl) ?_
          refine RW.on_guard rfl rfl rfl rfl hk128 ?_
          refine RW.op1 rfl (runs_eqI rfl rfl) ?_
          refine RW.op1 rfl (runs_pick_true rfl hk128 rfl) ?_
          refine RW.op1 rfl (runs_move rfl) ?_
          have hk135 := (show decide (n = n) = true by simp)
          refine RW.on_guard rfl rfl rfl rfl hk135 ?_
          refine RW.call rfl call13 rfl rfl (wakes_spec hst) ?_
          rintro e w ⟨rfl, I12, hI12, hstn⟩
          clear hst
          have hst := hstn
          clear hstn
          replace hA := hA.mono hI12
          replace hW := hW.mono hI12
          replace hle := hle.trans hI12
          refine ⟨_, rfl, ?_⟩
          refine RW.op1 rfl (runs_pick_true rfl hk135 rfl) ?_
          refine RW.op1 rfl (runs_assign rfl) ?_
          refine RW.done ?_
          refine AQ.next ?_
          refine CW.ret ?_
          refine AQ.block_ret ?_
          refine AQ.past_ret ?_
          refine AQ.ret1 rfl rfl ?_
          exact ⟨rfl, _, hle, hst⟩
        · have hcb112 := hc112
          try simp only [decide_eq_true_eq, decide_eq_false_iff_not] at hc112
          skip
          refine CW.seq ?_
          -- region 17
          refine CW.region ?_
          refine RW.op1 rfl (runs_assertOk con9 ti9 rfl (by first | rfl | assumption)) ?_
          refine RW.op1 rfl (runs_extract rfl rfl) ?_
          refine RW.op1 rfl (runs_extract rfl rfl) ?_
          refine RW.done ?_
          refine AQ.next ?_
          refine CW.cond rfl (fun hc139 => ?_) (fun hc139 => ?_)
          · have hcb139 := hc139
            try simp only [decide_eq_true_eq, decide_eq_false_iff_not] at hc139
            obtain ⟨n, rfl⟩ := AV.asB_txt hga1 hcb139
            refine CW.seq ?_
            -- region 18
            refine CW.region ?_
            refine RW.op1 rfl (runs_assign rfl) ?_
            refine RW.done ?_
            refine AQ.next ?_
            refine CW.seq ?_
            -- region 19
            refine CW.region ?_
            refine RW.op1 rfl (runs_move rfl) ?_
            refine RW.op1 rfl (runs_move rfl) ?_
            have hk142 := (show asB 9 (AV.txt n).v = true from rfl)
            refine RW.on_guard rfl rfl rfl rfl hk142 ?_
            refine RW.op1 rfl (runs_move rfl) ?_
            refine RW.on_guard rfl rfl rfl rfl hk142 ?_
            refine RW.op1 rfl (runs_move rfl) ?_
            refine RW.on_guard rfl rfl rfl rfl hk142 ?_
            refine RW.op1 rfl (runs_eqS rfl rfl) ?_
            refine RW.op1 rfl (runs_pick_true rfl hk142 rfl) ?_
            refine RW.op1 rfl (runs_move rfl) ?_
            have hk147 := (show (n.toList == n.toList) = true by simp)
            refine RW.on_guard rfl rfl rfl rfl hk147 ?_
            refine RW.op1 rfl (runs_move rfl) ?_
            refine RW.on_guard rfl rfl rfl rfl hk147 ?_
            refine RW.op1 rfl (runs_not rfl) ?_
            refine RW.op1 rfl (runs_pick_true rfl hk147 rfl) ?_
            refine RW.op1 rfl (runs_move rfl) ?_
            have hk151 := (show (!asB 3 (AV.txt n).v) = true from rfl)
            refine RW.on_guard rfl rfl rfl rfl hk151 ?_
            refine RW.op1 rfl (runs_move rfl) ?_
            refine RW.on_guard rfl rfl rfl rfl hk151 ?_
            refine RW.op1 rfl (runs_not rfl) ?_
            refine RW.op1 rfl (runs_pick_true rfl hk151 rfl) ?_
            refine RW.op1 rfl (runs_move rfl) ?_
            have hk155 := (show (!asB 4 (AV.txt n).v) = true from rfl)
            refine RW.on_guard rfl rfl rfl rfl hk155 ?_
            refine RW.op1 rfl (runs_move rfl) ?_
            refine RW.on_guard rfl rfl rfl rfl hk155 ?_
            refine RW.op1 rfl (runs_move rfl) ?_
            refine RW.on_guard rfl rfl rfl rfl hk155 ?_
            refine RW.call rfl call24 rfl rfl (musttext_spec hst hW y n hat) ?_
            rintro e w ⟨rfl, hstn⟩
            clear hst
            have hst := hstn
            clear hstn
            refine ⟨_, rfl, ?_⟩
            refine RW.on_guard rfl rfl rfl rfl hk155 ?_
            refine RW.op1 rfl (runs_move rfl) ?_
            refine RW.on_guard rfl rfl rfl rfl hk155 ?_
            refine RW.op1 rfl (runs_eqS rfl rfl) ?_
            refine RW.op1 rfl (runs_pick_true rfl hk155 rfl) ?_
            refine RW.op1 rfl (runs_move rfl) ?_
            have hk162 := (show (n.toList == n.toList) = true by simp)
            refine RW.on_guard rfl rfl rfl rfl hk162 ?_
            refine RW.call rfl call13 rfl rfl (wakes_spec hst) ?_
            rintro e w ⟨rfl, I14, hI14, hstn⟩
            clear hst
            have hst := hstn
            clear hstn
            replace hA := hA.mono hI14
            replace hW := hW.mono hI14
            replace hle := hle.trans hI14
            refine ⟨_, rfl, ?_⟩
            refine RW.op1 rfl (runs_pick_true rfl hk162 rfl) ?_
            refine RW.op1 rfl (runs_assign rfl) ?_
            refine RW.done ?_
            refine AQ.next ?_
            refine CW.ret ?_
            refine AQ.block_ret ?_
            refine AQ.past_ret ?_
            refine AQ.ret1 rfl rfl ?_
            exact ⟨rfl, _, hle, hst⟩
          · have hcb139 := hc139
            try simp only [decide_eq_true_eq, decide_eq_false_iff_not] at hc139
            skip
            refine CW.seq ?_
            -- region 20
            refine CW.region ?_
            obtain ⟨n, rfl⟩ := AV.is_flg hga1 hcb112 hcb139
            refine RW.op1 rfl (runs_assertOk con4 ti4 rfl (by first | rfl | assumption)) ?_
            refine RW.op1 rfl (runs_extract rfl rfl) ?_
            refine RW.op1 rfl (runs_extract rfl rfl) ?_
            refine RW.done ?_
            refine AQ.next ?_
            refine CW.cond rfl (fun hc => ?_) (fun hc => absurd hc (by simp [AV.v, asB]))
            refine CW.seq ?_
            -- region 21
            refine CW.region ?_
            refine RW.op1 rfl (runs_assign rfl) ?_
            refine RW.done ?_
            refine AQ.next ?_
            refine CW.seq ?_
            -- region 22
            refine CW.region ?_
            refine RW.op1 rfl (runs_move rfl) ?_
            refine RW.op1 rfl (runs_move rfl) ?_
            have hk169 := (show asB 4 (AV.flg n).v = true from rfl)
            refine RW.on_guard rfl rfl rfl rfl hk169 ?_
            refine RW.op1 rfl (runs_move rfl) ?_
            refine RW.on_guard rfl rfl rfl rfl hk169 ?_
            refine RW.op1 rfl (runs_move rfl) ?_
            refine RW.on_guard rfl rfl rfl rfl hk169 ?_
            refine RW.op1 rfl (runs_eqB Try.underlying4 rfl rfl) ?_
            refine RW.op1 rfl (runs_pick_true rfl hk169 rfl) ?_
            refine RW.op1 rfl (runs_move rfl) ?_
            have hk174 := (show (n == n) = true by simp)
            refine RW.on_guard rfl rfl rfl rfl hk174 ?_
            refine RW.op1 rfl (runs_move rfl) ?_
            refine RW.on_guard rfl rfl rfl rfl hk174 ?_
            refine RW.op1 rfl (runs_not rfl) ?_
            refine RW.op1 rfl (runs_pick_true rfl hk174 rfl) ?_
            refine RW.op1 rfl (runs_move rfl) ?_
            have hk178 := (show (!asB 3 (AV.flg n).v) = true from rfl)
            refine RW.on_guard rfl rfl rfl rfl hk178 ?_
            refine RW.op1 rfl (runs_move rfl) ?_
            refine RW.on_guard rfl rfl rfl rfl hk178 ?_
            refine RW.op1 rfl (runs_not rfl) ?_
            refine RW.op1 rfl (runs_pick_true rfl hk178 rfl) ?_
            refine RW.op1 rfl (runs_move rfl) ?_
            have hk182 := (show (!asB 9 (AV.flg n).v) = true from rfl)
            refine RW.on_guard rfl rfl rfl rfl hk182 ?_
            refine RW.call rfl call13 rfl rfl (wakes_spec hst) ?_
            rintro e w ⟨rfl, I15, hI15, hstn⟩
            clear hst
            have hst := hstn
            clear hstn
            replace hA := hA.mono hI15
            replace hW := hW.mono hI15
            replace hle := hle.trans hI15
            refine ⟨_, rfl, ?_⟩
            refine RW.op1 rfl (runs_pick_true rfl hk182 rfl) ?_
            refine RW.op1 rfl (runs_assign rfl) ?_
            refine RW.done ?_
            refine AQ.next ?_
            refine CW.ret ?_
            refine AQ.block_ret ?_
            refine AQ.past_ret ?_
            refine AQ.ret1 rfl rfl ?_
            exact ⟨rfl, _, hle, hst⟩
end Go.Proofs.YtoegloebnnjflaaX
