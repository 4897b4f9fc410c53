/- Lists of headers compared; the document's example: what these come to. -/
import Derived.Test.YtjlkidokkaibiaaDoorT
import Derived.Test.YtjlkidokkaibiaaDoorJ9
import Derived.Test.YtjlkidokkaibiaaDoorXI
namespace Go.Proofs.YtjlkidokkaibiaaDoorX
set_option linter.unusedVariables false
set_option linter.unusedSimpArgs false
open Go Go.RowKit Go.Proofs

theorem FSt.loadRow {P : Program} {l : Env} {ty : TypeId} {w0 : World} {I : Imm} {L : Own} {x : Operand} {T : TypeId} {z : Value} {bytes n size i : Nat} {v : Value} {xs row : List Value} (hT : isAggT P T = true) (ht : TI P T z size bytes) (hx : ev l x = some (.pointer (some (slPtr v (i * size))))) (hr : RdL I size v n xs) (hlen : row.length = size)
    (hget : ∀ j u, row[j]? = some u → xs[i * size + j]? = some u) : ∀ w', FSt w0 I L w' → Runs P (.load T x) ty l w' (.value (.agg row.toArray)) w' := by
  rintro w' ⟨I', hI, h⟩
  exact RdL.loadRow hT ht hx (hr.mono hI) h hlen hget
theorem headEM : EM Tryd.prog 26 [.s, .s] := EM.of (by kernel_rfl)
theorem hrow_ek (r : HRow) : EKs [.s, .s] (hrow r) := ⟨rfl, rfl, trivial⟩
theorem hrow_same (r : HRow) : veqs (hrow r) (hrow r) = true := veqs_self (hrow_ek r)
set_option maxRecDepth 100000 in
set_option maxHeartbeats 1000000 in
theorem sameH_spec {w0 w : World} {I : Imm} {L : Own} (hst : St w0 w I L) {va vb : Value} {hs : List HRow} (ha : RdH I va hs) (hb : RdH I vb hs) (hlen : hs.length ≤ 1000000) :
    Calls Tryd.prog 11 #[va, vb] w fun e w' => e = .returned (.bool true) ∧ St w0 w' I L := by
  refine enter Tryd.func11 rfl (N := 26) rfl rfl ?_
  simp only [List.zipIdx_cons, List.zipIdx_nil, List.map_cons, List.map_nil, Nat.zero_add, Nat.reduceAdd]
  have hle := Imm.le.refl I
  refine CW.seq ?_
  -- region 0
  refine CW.region ?_
  refine RW.op1 rfl (runs_assign rfl) ?_
  refine RW.done ?_
  refine AQ.next ?_
  refine CW.seq ?_
  refine CW.seq ?_
  -- region 1
  refine CW.region ?_
  refine RW.op1 rfl (runs_move rfl) ?_
  refine RW.op1 rfl (RdL.len Tryd.underlying31 rfl ha) ?_
  refine RW.op1 rfl (runs_move rfl) ?_
  refine RW.op1 rfl (RdL.len Tryd.underlying31 rfl hb) ?_
  refine RW.op1 rfl (runs_neI rfl rfl) ?_
  refine RW.done ?_
  refine AQ.next ?_
  refine CW.cond rfl (fun hc => absurd hc (by simp)) (fun hc => ?_)
  refine CW.skip ?_
  refine AQ.next ?_
  refine CW.seq ?_
  refine CW.seq ?_
  -- region 3
  refine CW.region ?_
  refine RW.op1 rfl (runs_assign rfl) ?_
  refine RW.done ?_
  refine AQ.next ?_
  refine CW.block ?_
  -- loop 1
  refine CW.loop Nat (fun k w => St w0 w I L ∧ k ≤ hs.length) (fun k => [(0, va), (1, vb), (5, .int .i64 (k : Int))]) (fun k => hs.length - k) ⟨0, ⟨hst, Nat.zero_le _⟩, ⟨rfl, rfl, rfl, trivial⟩⟩ ?_
  rintro k w ⟨hstn, hk⟩
  clear hst
  have hst := hstn
  clear hstn
  refine CW.seq ?_
  refine CW.seq ?_
  -- region 4
  refine CW.region ?_
  refine RW.op1 rfl (runs_move rfl) ?_
  refine RW.op1 rfl (runs_move rfl) ?_
  refine RW.op1 rfl (RdL.len Tryd.underlying31 rfl ha) ?_
  refine RW.op1 rfl (runs_lss rfl rfl) ?_
  refine RW.done ?_
  refine AQ.next ?_
  refine CW.cond rfl (fun hc14 => ?_) (fun hc14 => ?_)
  · have hcb14 := hc14
    try simp only [decide_eq_true_eq, decide_eq_false_iff_not] at hc14
    have hk1 : k < hs.length := by omega
    obtain ⟨r, hr⟩ : ∃ r, hs[k]? = some r := ⟨_, List.getElem?_eq_getElem hk1⟩
    refine CW.skip ?_
    refine AQ.next ?_
    refine CW.seq ?_
    refine CW.block ?_
    refine CW.seq ?_
    -- region 6
    refine CW.drawSt hst (.q 0 (.q 1 (.q 2 (.q 3 (.q 4 (.q 5 (.q 6 (.q 7 (.q 8 .nil))))))))) follows (by kernel_rfl) (fun w hst => ?_)
    refine DRW.q rfl rfl (fun w' hF => runs_move rfl) ?_
    refine DRW.q rfl rfl (fun w' hF => runs_move rfl) ?_
    refine DRW.q rfl rfl (fun w' hF => RdL.indexAddr Tryd.underlying31 ti26 (by decide) rfl rfl ha (by omega)) ?_
    refine DRW.q rfl rfl (FSt.loadRow (row := hrow r) ag26 ti26 rfl ha rfl (hrow_at hr)) ?_
    refine DRW.q rfl rfl (fun w' hF => runs_move rfl) ?_
    refine DRW.q rfl rfl (fun w' hF => runs_move rfl) ?_
    refine DRW.q rfl rfl (fun w' hF => RdL.indexAddr Tryd.underlying31 ti26 (by decide) rfl rfl hb (by omega)) ?_
    refine DRW.q rfl rfl (FSt.loadRow (row := hrow r) ag26 ti26 rfl hb rfl (hrow_at hr)) ?_
    refine DRW.q rfl rfl (fun w' hF => runs_neM headEM rfl rfl rfl rfl (hrow_ek r) (hrow_ek r)) ?_
    rw [hrow_same]
    refine DRW.done ?_
    refine AQ.next ?_
    refine CW.cond rfl (fun hc => absurd hc (by decide)) (fun hc => ?_)
    refine CW.skip ?_
    refine AQ.block_normal ?_
    refine AQ.next ?_
    -- region 5
    refine CW.region ?_
    refine RW.op1 rfl (runs_move rfl) ?_
    refine RW.op1 rfl (runs_add rfl rfl (by omega)) ?_
    refine RW.op1 rfl (runs_assign rfl) ?_
    refine RW.done ?_
    exact AQ.again (x := k) (k + 1) ⟨hst, by omega⟩ ⟨rfl, rfl, rfl, trivial⟩ (by omega)
  · have hcb14 := hc14
    try simp only [decide_eq_true_eq, decide_eq_false_iff_not] at hc14
    skip
    refine CW.exit ?_
    refine AQ.past_exit ?_
    refine AQ.past_exit ?_
    refine AQ.block_hit ?_
    refine AQ.next ?_
    refine CW.seq ?_
    -- region 8
    refine CW.region ?_
    refine RW.op1 rfl (runs_assign rfl) ?_
    refine RW.done ?_
    refine AQ.next ?_
    refine CW.ret ?_
    refine AQ.ret1 rfl rfl ?_
    exact ⟨rfl, hst⟩
set_option maxRecDepth 100000 in
set_option maxHeartbeats 1000000 in
theorem to_spec {w0 w : World} {I : Imm} {L : Own} (hst : St w0 w I L) (code : Int) {vh : Value} {hs : List HRow} (hv : RdH I vh hs) (body : ByteArray) (cut : Bool) :
    Calls Tryd.prog 18 #[.agg #[.int .i64 code, vh, .string body, .bool cut]] w fun e w' => ∃ I', Imm.le I I' ∧ e = .returned (.agg #[.int .i64 code, vh, .string body, .bool cut]) ∧ St w0 w' I' L := by
  obtain ⟨hA, hcap, hvh⟩ : ∃ A c, vh = .slice A hs.length c := by obtain ⟨_, _, A, c, e, _⟩ := hv; exact ⟨A, c, e⟩
  subst hvh
  refine enter Tryd.func18 rfl (N := 12) rfl rfl ?_
  simp only [List.zipIdx_cons, List.zipIdx_nil, List.map_cons, List.map_nil, Nat.zero_add, Nat.reduceAdd]
  have hle := Imm.le.refl I
  refine CW.seq ?_
  -- region 0
  refine CW.region ?_
  refine RW.opE rfl (runs_box rfl hst) ?_
  rintro _ w ⟨b1, rfl, hstn⟩
  clear hst
  have hst := hstn
  clear hstn
  refine RW.opE rfl (runs_alloc ti45 hst) ?_
  rintro _ w ⟨b2, rfl, hstn⟩
  clear hst
  have hst := hstn
  clear hstn
  refine RW.done ?_
  refine AQ.next ?_
  refine CW.seq ?_
  -- region 1
  refine CW.region ?_
  first
    | refine RW.op1 rfl (runs_fieldAddr0 rfl Tryd.underlying40 rfl ti3 (by decide)) ?_
    | refine RW.op1 rfl (runs_fieldAddr rfl Tryd.underlying40 rfl ti3 (by decide)) ?_
  first
    | refine RW.op1 rfl (runs_load1 sc3 rfl (hst.cell_own (k := 0) rfl rfl)) ?_
    | refine RW.op1 rfl (runs_load1 sc3 rfl (hst.cell_own (k := 1) rfl rfl)) ?_
    | refine RW.op1 rfl (runs_load1 sc3 rfl (hst.cell_own (k := 2) rfl rfl)) ?_
  first
    | refine RW.op1 rfl (runs_fieldAddr0 rfl Tryd.underlying40 rfl ti31 (by decide)) ?_
    | refine RW.op1 rfl (runs_fieldAddr rfl Tryd.underlying40 rfl ti31 (by decide)) ?_
  first
    | refine RW.op1 rfl (runs_load1 sc31 rfl (hst.cell_own (k := 0) rfl rfl)) ?_
    | refine RW.op1 rfl (runs_load1 sc31 rfl (hst.cell_own (k := 1) rfl rfl)) ?_
    | refine RW.op1 rfl (runs_load1 sc31 rfl (hst.cell_own (k := 2) rfl rfl)) ?_
  first
    | refine RW.op1 rfl (runs_fieldAddr0 rfl Tryd.underlying40 rfl ti9 (by decide)) ?_
    | refine RW.op1 rfl (runs_fieldAddr rfl Tryd.underlying40 rfl ti9 (by decide)) ?_
  first
    | refine RW.op1 rfl (runs_load1 sc9 rfl (hst.cell_own (k := 0) rfl rfl)) ?_
    | refine RW.op1 rfl (runs_load1 sc9 rfl (hst.cell_own (k := 1) rfl rfl)) ?_
    | refine RW.op1 rfl (runs_load1 sc9 rfl (hst.cell_own (k := 2) rfl rfl)) ?_
  first
    | refine RW.op1 rfl (runs_fieldAddr0 rfl Tryd.underlying40 rfl ti4 (by decide)) ?_
    | refine RW.op1 rfl (runs_fieldAddr rfl Tryd.underlying40 rfl ti4 (by decide)) ?_
  first
    | refine RW.op1 rfl (runs_load1 sc4 rfl (hst.cell_own (k := 0) rfl rfl)) ?_
    | refine RW.op1 rfl (runs_load1 sc4 rfl (hst.cell_own (k := 1) rfl rfl)) ?_
    | refine RW.op1 rfl (runs_load1 sc4 rfl (hst.cell_own (k := 2) rfl rfl)) ?_
  refine RW.op1 rfl (runs_buildF (cells := [_, _, _, _]) bz45 rfl rfl rfl rfl rfl) ?_
  first
    | refine RW.opE0 (runs_storeW ti45 rfl rfl hst (k := 0) rfl rfl rfl (NoFz.zero _) rfl) ?_
    | refine RW.opE0 (runs_storeP ti45 rfl rfl hst (k := 0) rfl rfl rfl (NoFz.zero _) rfl) ?_
    | refine RW.opE0 (runs_storeW ti45 rfl rfl hst (k := 1) rfl rfl rfl (NoFz.zero _) rfl) ?_
    | refine RW.opE0 (runs_storeP ti45 rfl rfl hst (k := 1) rfl rfl rfl (NoFz.zero _) rfl) ?_
    | refine RW.opE0 (runs_storeW ti45 rfl rfl hst (k := 2) rfl rfl rfl (NoFz.zero _) rfl) ?_
    | refine RW.opE0 (runs_storeP ti45 rfl rfl hst (k := 2) rfl rfl rfl (NoFz.zero _) rfl) ?_
  rintro w hstn
  clear hst
  have hst := hstn
  clear hstn
  try simp only [List.set_cons_zero, List.set_cons_succ] at hst
  refine RW.done ?_
  refine AQ.next ?_
  refine CW.ret ?_
  refine AQ.retS rfl rfl (hst.loadN (vs := [_, _, _, _]) (k := 0) ag45 ti45 rfl rfl rfl) ?_
  exact ⟨_, hle, rfl, hst.drop1.drop1⟩
def aTag : ByteArray := ⟨#[34, 97, 34]⟩
def tagHd : HRow := (⟨#[69, 84, 97, 103]⟩, aTag)
theorem tag_get : getH etagS [tagHd] = (aTag, true) := by
  simp only [getH, lowEq, ByteArray.toList_eq]
  rfl
theorem tag_closed : tagR [tagHd] = aTag := by
  unfold tagR
  rw [tag_get]
  simp only [ByteArray.toList_eq]
  rfl
theorem aTag_self : (aTag.toList == (ByteArray.mk #[34, 97, 34]).toList) = true := by
  simp only [ByteArray.toList_eq]
  rfl
set_option maxRecDepth 100000 in
set_option maxHeartbeats 1000000 in
theorem wakes15_spec {w0 w : World} {I : Imm} {L : Own} (hst : St w0 w I L) (hT : TabK I) :
    Calls Tryd.prog 12 #[] w fun e w' => e = .returned (.bool true) ∧ ∃ I', Imm.le I I' ∧ St w0 w' I' L := by
  refine enter Tryd.func12 rfl (N := 15) rfl rfl ?_
  simp only [List.zipIdx_cons, List.zipIdx_nil, List.map_cons, List.map_nil, Nat.zero_add, Nat.reduceAdd]
  have hle := Imm.le.refl I
  refine CW.seq ?_
  -- region 0
  refine CW.region ?_
  refine RW.op1 rfl (runs_assign rfl) ?_
  refine RW.done ?_
  refine AQ.next ?_
  refine CW.seq ?_
  -- region 1
  refine CW.region ?_
  refine RW.call rfl call10 rfl rfl (heads_spec hst hT 0 (by decide) aTag) ?_
  rintro e w ⟨I1, v1, hI1, rfl, hR1, hstn⟩
  clear hst
  have hst := hstn
  clear hstn
  replace hR1 : RdH _ _ [] := hR1
  replace hT := hT.mono hI1
  replace hle := hle.trans hI1
  refine ⟨_, rfl, ?_⟩
  refine RW.op1 rfl (RdL.len Tryd.underlying31 rfl hR1) ?_
  refine RW.op1 rfl (runs_eqI rfl rfl) ?_
  refine RW.op1 rfl (runs_move rfl) ?_
  have hk4 := (show decide (((([] : List HRow).length : Nat) : Int) = 0) = true by decide)
  refine RW.on_guard rfl rfl rfl rfl hk4 ?_
  refine RW.call rfl call10 rfl rfl (heads_spec hst hT 3 (by decide) aTag) ?_
  rintro e w ⟨I2, v2, hI2, rfl, hR2, hstn⟩
  clear hst
  have hst := hstn
  clear hstn
  rw [show rheadsR 3 aTag = [(rangeN, rangeV 3), (ifN, aTag)] from if_neg (by rw [ByteArray.toList_eq]; decide)] at hR2
  replace hT := hT.mono hI2
  replace hle := hle.trans hI2
  refine ⟨_, rfl, ?_⟩
  refine RW.on_guard rfl rfl rfl rfl hk4 ?_
  refine RW.op1 rfl (RdL.len Tryd.underlying31 rfl hR2) ?_
  refine RW.on_guard rfl rfl rfl rfl hk4 ?_
  refine RW.op1 rfl (runs_eqI rfl rfl) ?_
  refine RW.op1 rfl (runs_pick_true rfl hk4 rfl) ?_
  refine RW.op1 rfl (runs_move rfl) ?_
  have hk9 := (show decide (((([(rangeN, rangeV 3), (ifN, aTag)] : List HRow).length : Nat) : Int) = 2) = true by rfl)
  refine RW.on_guard rfl rfl rfl rfl hk9 ?_
  refine RW.op1 rfl (runs_buildF (cells := [_, _]) bz26 rfl rfl rfl rfl rfl) ?_
  refine RW.on_guard rfl rfl rfl rfl hk9 ?_
  refine RW.opE rfl (runs_litF (xs := [.agg #[_, _]]) Tryd.underlying31 ti26 (by decide) rfl rfl rfl rfl rfl hst (by decide)) ?_
  rintro u3 w ⟨Lv3, hstn, hg3⟩
  clear hst
  have hst := hstn
  clear hstn
  obtain ⟨J3, hJ3, hstn, h3⟩ := Grow.freeze hg3 hst
  clear hst
  have hst := hstn
  clear hstn
  replace hT := hT.mono hJ3
  replace hle := hle.trans hJ3
  try simp only [List.nil_append] at h3
  replace h3 : RdH _ u3 [tagHd] := h3
  have hR3 := h3
  refine RW.on_guard rfl rfl rfl rfl hk9 ?_
  refine RW.call rfl call7 rfl rfl (tag_spec hst hR3 (by intro r hr; rw [List.mem_singleton.1 hr]; decide) (by rw [tag_get]; decide) (by decide)) ?_
  rintro e w ⟨I4, hI4, rfl, hstn⟩
  clear hst
  have hst := hstn
  clear hstn
  rw [tag_closed]
  replace hT := hT.mono hI4
  replace h3 := h3.mono hI4
  replace hR3 := hR3.mono hI4
  replace hle := hle.trans hI4
  refine ⟨_, rfl, ?_⟩
  refine RW.on_guard rfl rfl rfl rfl hk9 ?_
  refine RW.op1 rfl (runs_eqS rfl rfl) ?_
  refine RW.op1 rfl (runs_pick_true rfl hk9 rfl) ?_
  refine RW.op1 rfl (runs_assign rfl) ?_
  refine RW.done ?_
  refine AQ.next ?_
  refine CW.ret ?_
  refine AQ.ret1 rfl rfl ?_
  rw [aTag_self]
  exact ⟨rfl, _, hle, hst⟩
end Go.Proofs.YtjlkidokkaibiaaDoorX
