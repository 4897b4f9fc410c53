/- Where a value is of another kind, or there is none, the must calls panic; else they do not: the walk. -/
import Derived.Test.YtoegloebnnjflaaT
import Derived.Test.YtoegloebnnjflaaA7
namespace Go.Proofs.YtoegloebnnjflaaX
set_option linter.unusedVariables false
set_option linter.unusedSimpArgs false
open Go Go.RowKit Go.Proofs

set_option maxRecDepth 100000 in
set_option maxHeartbeats 1000000 in
theorem cmust_spec {w0 w : World} {I : Imm} {L : Own} (hst : St w0 w I L) {vl : Value} {xl : List Int} (hl : RdI I vl xl) (hxl : ∀ n ∈ xl, i64ok n) (hll : xl.length ≤ 9223372036854775807) (s : ByteArray) (k : Int) (hk : i64ok k) :
    Calls Try.prog 4 #[vl, .string s, .int .i64 k] w fun e w' => e = .returned (.bool true) ∧ ∃ I', I.le I' ∧ St w0 w' I' L := by
  refine enter Try.func4 rfl (N := 51) rfl rfl ?_
  simp only [List.zipIdx_cons, List.zipIdx_nil, List.map_cons, List.map_nil, Nat.zero_add, Nat.reduceAdd]
  have hle := Imm.le.refl I
  refine CW.seq ?_
  -- region 0
  refine CW.region ?_
  refine RW.op1 rfl (runs_assign rfl) ?_
  refine RW.done ?_
  refine AQ.next ?_
  refine CW.seq ?_
  -- region 1
  refine CW.region ?_
  refine RW.op1 rfl (runs_move rfl) ?_
  refine RW.op1 rfl (runs_move rfl) ?_
  refine RW.call rfl call9 rfl rfl (text_spec hst s (n := 100) (by decide)) ?_
  rintro e w ⟨s1, rfl, hs1, hstn⟩
  clear hst
  have hst := hstn
  clear hstn
  have hz1 : s1.size ≤ 100 := by rw [← size_toList, hs1, List.length_take]; show min 100 _ ≤ 100; omega
  refine ⟨_, rfl, ?_⟩
  refine RW.call rfl call8 rfl rfl (values_spec hst hl hxl hll s1 (by omega) 0 (by unfold i64ok; omega) false (fun _ => by decide)) ?_
  rintro e w ⟨I2, va, av, hI2, rfl, hstn, hA, hga, hal⟩
  clear hst
  have hst := hstn
  clear hstn
  replace hle := hle.trans hI2
  refine ⟨_, rfl, ?_⟩
  refine RW.op1 rfl (runs_assign rfl) ?_
  refine RW.done ?_
  refine AQ.next ?_
  refine CW.seq ?_
  -- region 2
  refine CW.region ?_
  refine RW.op1 rfl (runs_move rfl) ?_
  refine RW.op1 rfl (runs_move rfl) ?_
  refine RW.op1 rfl (RdL.len Try.underlying23 rfl hA) ?_
  refine RW.op1 rfl (runs_add rfl rfl (by omega)) ?_
  refine RW.call rfl call14 rfl rfl (within_spec hst (v := k) (n := (av.length : Int) + 2) hk (by unfold i64ok; omega)) ?_
  rintro e w ⟨rfl, hstn⟩
  clear hst
  have hst := hstn
  clear hstn
  have hw := within_range k ((av.length : Int) + 2)
  generalize within k ((av.length : Int) + 2) = y at *
  refine ⟨_, rfl, ?_⟩
  refine RW.op1 rfl (runs_sub rfl rfl (by omega)) ?_
  refine RW.op1 rfl (runs_assign rfl) ?_
  refine RW.done ?_
  refine AQ.next ?_
  refine CW.seq ?_
  -- region 3
  refine CW.region ?_
  refine RW.op1 rfl (runs_move rfl) ?_
  refine RW.op1 rfl (runs_move rfl) ?_
  refine RW.call rfl call15 rfl rfl (int_spec hst hA hga (y - 1)) ?_
  rintro e w ⟨rfl, hstn⟩
  clear hst
  have hst := hstn
  clear hstn
  refine ⟨_, rfl, ?_⟩
  refine RW.op1 rfl (runs_move rfl) ?_
  refine RW.op1 rfl (runs_extract rfl rfl) ?_
  refine RW.op1 rfl (runs_extract rfl rfl) ?_
  refine RW.op1 rfl (runs_assign rfl) ?_
  refine RW.op1 rfl (runs_assign rfl) ?_
  refine RW.done ?_
  refine AQ.next ?_
  refine CW.seq ?_
  -- region 4
  refine CW.region ?_
  refine RW.op1 rfl (runs_move rfl) ?_
  refine RW.op1 rfl (runs_move rfl) ?_
  refine RW.call rfl call16 rfl rfl (text__spec hst hA hga (y - 1)) ?_
  rintro e w ⟨rfl, hstn⟩
  clear hst
  have hst := hstn
  clear hstn
  refine ⟨_, rfl, ?_⟩
  refine RW.op1 rfl (runs_move rfl) ?_
  refine RW.op1 rfl (runs_extract rfl rfl) ?_
  refine RW.op1 rfl (runs_extract rfl rfl) ?_
  refine RW.op1 rfl (runs_assign rfl) ?_
  refine RW.op1 rfl (runs_assign rfl) ?_
  refine RW.done ?_
  refine AQ.next ?_
  refine CW.seq ?_
  -- region 5
  refine CW.region ?_
  refine RW.op1 rfl (runs_move rfl) ?_
  refine RW.op1 rfl (runs_move rfl) ?_
  refine RW.call rfl call17 rfl rfl (falls_spec hst hA hga (y - 1) true) ?_
  rintro e w ⟨rfl, hstn⟩
  clear hst
  have hst := hstn
  clear hstn
  rw [if_pos rfl]
  refine ⟨_, rfl, ?_⟩
  refine RW.op1 rfl (runs_move rfl) ?_
  refine RW.op1 rfl (runs_not rfl) ?_
  refine RW.op1 rfl (runs_eqB Try.underlying4 rfl rfl) ?_
  refine RW.op1 rfl (runs_move rfl) ?_
  have hk40 := (show ((!asB 3 (atA av (y - 1)).v) == (!asB 3 (atA av (y - 1)).v)) = true by simp)
  refine RW.on_guard rfl rfl rfl rfl hk40 ?_
  refine RW.op1 rfl (runs_move rfl) ?_
  refine RW.on_guard rfl rfl rfl rfl hk40 ?_
  refine RW.op1 rfl (runs_move rfl) ?_
  refine RW.on_guard rfl rfl rfl rfl hk40 ?_
  refine RW.call rfl call17 rfl rfl (falls_spec hst hA hga (y - 1) false) ?_
  rintro e w ⟨rfl, hstn⟩
  clear hst
  have hst := hstn
  clear hstn
  rw [if_neg (by decide)]
  refine ⟨_, rfl, ?_⟩
  refine RW.on_guard rfl rfl rfl rfl hk40 ?_
  refine RW.op1 rfl (runs_move rfl) ?_
  refine RW.on_guard rfl rfl rfl rfl hk40 ?_
  refine RW.op1 rfl (runs_not rfl) ?_
  refine RW.on_guard rfl rfl rfl rfl hk40 ?_
  refine RW.op1 rfl (runs_eqB Try.underlying4 rfl rfl) ?_
  refine RW.op1 rfl (runs_pick_true rfl hk40 rfl) ?_
  refine RW.op1 rfl (runs_move rfl) ?_
  have hk48 := (show ((!asB 9 (atA av (y - 1)).v) == (!asB 9 (atA av (y - 1)).v)) = true by simp)
  refine RW.on_guard rfl rfl rfl rfl hk48 ?_
  refine RW.call rfl call13 rfl rfl (wakes_spec hst) ?_
  rintro e w ⟨rfl, I8, hI8, hstn⟩
  clear hst
  have hst := hstn
  clear hstn
  replace hA := hA.mono hI8
  replace hle := hle.trans hI8
  refine ⟨_, rfl, ?_⟩
  refine RW.op1 rfl (runs_pick_true rfl hk48 rfl) ?_
  refine RW.op1 rfl (runs_assign rfl) ?_
  refine RW.done ?_
  refine AQ.next ?_
  refine CW.ret ?_
  refine AQ.ret1 rfl rfl ?_
  exact ⟨rfl, _, hle, hst⟩
end Go.Proofs.YtoegloebnnjflaaX
