/- Lists of headers compared; the document's example: what these come to. -/
import Derived.Test.YtfjghkmapccjhaaDoorT
import Derived.Test.YtfjghkmapccjhaaDoorJ9
import Derived.Test.YtfjghkmapccjhaaDoorXI
namespace Go.Proofs.YtfjghkmapccjhaaDoorX
set_option linter.unusedVariables false
set_option linter.unusedSimpArgs false
open Go Go.RowKit Go.Proofs

theorem FSt.loadRow {P : Program} {l : Env} {ty : TypeId} {w0 : World} {I : Imm} {L : Own} {x : Operand} {T : TypeId} {z : Value} {bytes n size i : Nat} {v : Value} {xs row : List Value} (hT : isAggT P T = true) (ht : TI P T z size bytes) (hx : ev l x = some (.pointer (some (slPtr v (i * size))))) (hr : RdL I size v n xs) (hlen : row.length = size)
    (hget : ∀ j u, row[j]? = some u → xs[i * size + j]? = some u) : ∀ w', FSt w0 I L w' → Runs P (.load T x) ty l w' (.value (.agg row.toArray)) w' := by
  rintro w' ⟨I', hI, h⟩
  exact RdL.loadRow hT ht hx (hr.mono hI) h hlen hget
theorem headEM : EM Tryd.prog 27 [.s, .s] := EM.of (by kernel_rfl)
theorem hrow_ek (r : HRow) : EKs [.s, .s] (hrow r) := ⟨rfl, rfl, trivial⟩
theorem hrow_same (r : HRow) : veqs (hrow r) (hrow r) = true := veqs_self (hrow_ek r)
set_option maxRecDepth 100000 in
set_option maxHeartbeats 1000000 in
theorem sameH_spec {w0 w : World} {I : Imm} {L : Own} (hst : St w0 w I L) {va vb : Value} {hs : List HRow} (ha : RdH I va hs) (hb : RdH I vb hs) (hlen : hs.length ≤ 1000000) :
    Calls Tryd.prog 11 #[va, vb] w fun e w' => e = .returned (.bool true) ∧ St w0 w' I L := by
  refine enter Tryd.func11 rfl (N := 26) rfl rfl ?_
  simp only [List.zipIdx_cons, List.zipIdx_nil, List.map_cons, List.map_nil, Nat.zero_add, Nat.reduceAdd]
  have hle := Imm.le.refl I
  refine CW.seq ?_
  -- region 0
  refine CW.region ?_
  refine RW.op1 rfl (runs_assign rfl) ?_
  refine RW.done ?_
  refine AQ.next ?_
  refine CW.seq ?_
  refine CW.seq ?_
  -- region 1
  refine CW.region ?_
  refine RW.op1 rfl (runs_move rfl) ?_
  refine RW.op1 rfl (RdL.len Tryd.underlying23 rfl ha) ?_
  refine RW.op1 rfl (runs_move rfl) ?_
  refine RW.op1 rfl (RdL.len Tryd.underlying23 rfl hb) ?_
  refine RW.op1 rfl (runs_neI rfl rfl) ?_
  refine RW.done ?_
  refine AQ.next ?_
  refine CW.cond rfl (fun hc => absurd hc (by simp)) (fun hc => ?_)
  refine CW.skip ?_
  refine AQ.next ?_
  refine CW.seq ?_
  refine CW.seq ?_
  -- region 3
  refine CW.region ?_
  refine RW.op1 rfl (runs_assign rfl) ?_
  refine RW.done ?_
  refine AQ.next ?_
  refine CW.block ?_
  -- loop 1
  refine CW.loop Nat (fun k w => St w0 w I L ∧ k ≤ hs.length) (fun k => [(0, va), (1, vb), (5, .int .i64 (k : Int))]) (fun k => hs.length - k) ⟨0, ⟨hst, Nat.zero_le _⟩, ⟨rfl, rfl, rfl, trivial⟩⟩ ?_
  rintro k w ⟨hstn, hk⟩
  clear hst
  have hst := hstn
  clear hstn
  refine CW.seq ?_
  refine CW.seq ?_
  -- region 4
  refine CW.region ?_
  refine RW.op1 rfl (runs_move rfl) ?_
  refine RW.op1 rfl (runs_move rfl) ?_
  refine RW.op1 rfl (RdL.len Tryd.underlying23 rfl ha) ?_
  refine RW.op1 rfl (runs_lss rfl rfl) ?_
  refine RW.done ?_
  refine AQ.next ?_
  refine CW.cond rfl (fun hc14 => ?_) (fun hc14 => ?_)
  · have hcb14 := hc14
    try simp only [decide_eq_true_eq, decide_eq_false_iff_not] at hc14
    have hk1 : k < hs.length := by omega
    obtain ⟨r, hr⟩ : ∃ r, hs[k]? = some r := ⟨_, List.getElem?_eq_getElem hk1⟩
    refine CW.skip ?_
    refine AQ.next ?_
    refine CW.seq ?_
    refine CW.block ?_
    refine CW.seq ?_
    -- region 6
    refine CW.drawSt hst (.q 0 (.q 1 (.q 2 (.q 3 (.q 4 (.q 5 (.q 6 (.q 7 (.q 8 .nil))))))))) follows (by kernel_rfl) (fun w hst => ?_)
    refine DRW.q rfl rfl (fun w' hF => runs_move rfl) ?_
    refine DRW.q rfl rfl (fun w' hF => runs_move rfl) ?_
    refine DRW.q rfl rfl (fun w' hF => RdL.indexAddr Tryd.underlying23 ti27 (by decide) rfl rfl ha (by omega)) ?_
    refine DRW.q rfl rfl (FSt.loadRow (row := hrow r) ag27 ti27 rfl ha rfl (hrow_at hr)) ?_
    refine DRW.q rfl rfl (fun w' hF => runs_move rfl) ?_
    refine DRW.q rfl rfl (fun w' hF => runs_move rfl) ?_
    refine DRW.q rfl rfl (fun w' hF => RdL.indexAddr Tryd.underlying23 ti27 (by decide) rfl rfl hb (by omega)) ?_
    refine DRW.q rfl rfl (FSt.loadRow (row := hrow r) ag27 ti27 rfl hb rfl (hrow_at hr)) ?_
    refine DRW.q rfl rfl (fun w' hF => runs_neM headEM rfl rfl rfl rfl (hrow_ek r) (hrow_ek r)) ?_
    rw [hrow_same]
    refine DRW.done ?_
    refine AQ.next ?_
    refine CW.cond rfl (fun hc => absurd hc (by decide)) (fun hc => ?_)
    refine CW.skip ?_
    refine AQ.block_normal ?_
    refine AQ.next ?_
    -- region 5
    refine CW.region ?_
    refine RW.op1 rfl (runs_move rfl) ?_
    refine RW.op1 rfl (runs_add rfl rfl (by omega)) ?_
    refine RW.op1 rfl (runs_assign rfl) ?_
    refine RW.done ?_
    exact AQ.again (x := k) (k + 1) ⟨hst, by omega⟩ ⟨rfl, rfl, rfl, trivial⟩ (by omega)
  · have hcb14 := hc14
    try simp only [decide_eq_true_eq, decide_eq_false_iff_not] at hc14
    skip
    refine CW.exit ?_
    refine AQ.past_exit ?_
    refine AQ.past_exit ?_
    refine AQ.block_hit ?_
    refine AQ.next ?_
    refine CW.seq ?_
    -- region 8
    refine CW.region ?_
    refine RW.op1 rfl (runs_assign rfl) ?_
    refine RW.done ?_
    refine AQ.next ?_
    refine CW.ret ?_
    refine AQ.ret1 rfl rfl ?_
    exact ⟨rfl, hst⟩
def aTag : ByteArray := ⟨#[34, 97, 34]⟩
def tagHd : HRow := (⟨#[69, 84, 97, 103]⟩, aTag)
theorem tag_get : getH etagS [tagHd] = (aTag, true) := by
  simp only [getH, lowEq, ByteArray.toList_eq]
  rfl
theorem tag_closed : tagR [tagHd] = aTag := by
  unfold tagR
  rw [tag_get]
  simp only [ByteArray.toList_eq]
  rfl
theorem aTag_self : (aTag.toList == (ByteArray.mk #[34, 97, 34]).toList) = true := by
  simp only [ByteArray.toList_eq]
  rfl
end Go.Proofs.YtfjghkmapccjhaaDoorX
