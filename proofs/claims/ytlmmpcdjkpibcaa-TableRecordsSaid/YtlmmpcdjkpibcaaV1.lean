/- A table: what its functions come to. -/
import Derived.Test.YtlmmpcdjkpibcaaT
import Derived.Test.YtlmmpcdjkpibcaaV0
namespace Go.Proofs.YtlmmpcdjkpibcaaX
set_option linter.unusedVariables false
set_option linter.unusedSimpArgs false
open Go Go.RowKit Go.Proofs

set_option maxRecDepth 100000 in
set_option maxHeartbeats 1000000 in
theorem clone_spec {w0 w : World} {I : Imm} {L : Own} (hst : St w0 w I L) {v : Value} {hs : List HRow} (hv : SrcH I L v hs) (hlen : hs.length ≤ 100000000) :
    Calls Try.prog 44 #[v] w fun e w' => ∃ v' Lv', e = .returned v' ∧ St w0 w' I (Lv' ++ L) ∧ Grow 54 2 v' (hs).length ((hs).flatMap hrow) Lv' := by
  obtain ⟨A, c, rfl, hsrc⟩ := hv
  refine enter Try.func44 rfl (N := 8) rfl rfl ?_
  simp only [List.zipIdx_cons, List.zipIdx_nil, List.map_cons, List.map_nil, Nat.zero_add, Nat.reduceAdd]
  have hle := Imm.le.refl I
  refine CW.seq ?_
  -- region 0
  refine CW.region ?_
  refine RW.op1 rfl (runs_assign rfl) ?_
  refine RW.done ?_
  refine AQ.next ?_
  refine CW.seq ?_
  refine CW.seq ?_
  -- region 1
  refine CW.region ?_
  refine RW.op1 rfl (runs_move rfl) ?_
  refine RW.op1 rfl (runs_eq_nilslice Try.underlying30 rfl) ?_
  refine RW.done ?_
  refine AQ.next ?_
  refine CW.cond rfl (fun hc4 => ?_) (fun hc4 => ?_)
  · have hcb4 := hc4
    try simp only [decide_eq_true_eq, decide_eq_false_iff_not] at hc4
    refine CW.seq ?_
    -- region 2
    refine CW.region ?_
    refine RW.op1 rfl (runs_assign rfl) ?_
    refine RW.done ?_
    refine AQ.next ?_
    refine CW.ret ?_
    refine AQ.past_ret ?_
    refine AQ.ret1 rfl rfl ?_
    have h0 : A = none := by simpa using hcb4
    subst h0
    have h1 : hs = [] := by
      cases hs with
      | nil => rfl
      | cons r t => obtain ⟨a, h, _⟩ := hsrc w0 w I L (Imm.le.refl _) (fun p hp => hp) hst 0 (.string r.1) rfl; cases h
    subst h1
    exact ⟨_, [], rfl, hst, Grow.nil _ _⟩
  · have hcb4 := hc4
    try simp only [decide_eq_true_eq, decide_eq_false_iff_not] at hc4
    refine CW.skip ?_
    refine AQ.next ?_
    refine CW.seq ?_
    -- region 3
    refine CW.region ?_
    refine RW.opE rfl (runs_litF (xs := []) (size := 2) Try.underlying30 ti54 (by decide) rfl rfl rfl rfl rfl hst (by decide)) ?_
    rintro u1 w ⟨Lv1, hstn, hg1⟩
    clear hst
    have hst := hstn
    clear hstn
    have hsr2 := hsrc w0 w I (Lv1 ++ L) (Imm.le.refl _) (fun p hp => List.mem_append_right _ hp) hst
    have hg5 := hg1
    refine RW.op1 rfl (runs_move rfl) ?_
    refine RW.opE rfl (runs_appendG Try.underlying30 ti54 rfl (by decide) rfl rfl hst hg5 (flat_len2 hs) hsr2 (hrow_one hs) (by omega) (by unfold maxLen; omega)) ?_
    rintro u2 w ⟨Lv2, hstn, hg2⟩
    clear hst
    have hst := hstn
    clear hstn
    refine RW.op1 rfl (runs_assign rfl) ?_
    refine RW.done ?_
    refine AQ.next ?_
    refine CW.ret ?_
    refine AQ.ret1 rfl rfl ?_
    refine ⟨_, _, rfl, hst, ?_⟩
    simpa using hg2
set_option maxRecDepth 100000 in
set_option maxHeartbeats 1000000 in
theorem own_spec {w0 w : World} {I : Imm} {L : Own} (hst : St w0 w I L) {it : It} {vh : Value} (hv : SrcH I L vh it.heads) (hlen : it.heads.length ≤ 100000000) :
    Calls Try.prog 25 #[itv it vh] w fun e w' => ∃ v' Lv', e = .returned (itv it v') ∧ St w0 w' I (Lv' ++ L) ∧ v'.oneCell' = true ∧ Grow 54 2 v' (it.heads).length ((it.heads).flatMap hrow) Lv' := by
  have hv0 := hv
  obtain ⟨A, c, rfl, _⟩ := hv0
  refine enter Try.func25 rfl (N := 10) rfl rfl ?_
  simp only [List.zipIdx_cons, List.zipIdx_nil, List.map_cons, List.map_nil, Nat.zero_add, Nat.reduceAdd]
  have hle := Imm.le.refl I
  refine CW.seq ?_
  -- region 0
  refine CW.region ?_
  refine RW.opE rfl (runs_box rfl hst) ?_
  rintro _ w ⟨b1, rfl, hstn⟩
  clear hst
  have hst := hstn
  clear hstn
  refine RW.opE rfl (runs_alloc ti36 hst) ?_
  rintro _ w ⟨b2, rfl, hstn⟩
  clear hst
  have hst := hstn
  clear hstn
  refine RW.done ?_
  refine AQ.next ?_
  refine CW.seq ?_
  -- region 1
  refine CW.region ?_
  first
    | refine RW.op1 rfl (runs_fieldAddr0 rfl Try.underlying36 rfl ti32 (by decide)) ?_
    | refine RW.op1 rfl (runs_fieldAddr rfl Try.underlying36 rfl ti32 (by decide)) ?_
  first
    | refine RW.op1 rfl (runs_fieldAddr0 rfl Try.underlying32 rfl ti30 (by decide)) ?_
    | refine RW.op1 rfl (runs_fieldAddr rfl Try.underlying32 rfl ti30 (by decide)) ?_
  first
    | refine RW.op1 rfl (runs_load1 sc30 rfl (hst.cell_own (k := 0) rfl rfl)) ?_
    | refine RW.op1 rfl (runs_load1 sc30 rfl (hst.cell_own (k := 1) rfl rfl)) ?_
    | refine RW.op1 rfl (runs_load1 sc30 rfl (hst.cell_own (k := 2) rfl rfl)) ?_
  refine RW.call rfl call44 rfl rfl (clone_spec hst (hv.mono (Imm.le.refl _) (fun p hp => List.mem_cons_of_mem _ (List.mem_cons_of_mem _ hp))) hlen) ?_
  rintro e w ⟨v6, Lv6, rfl, hstn, hg6⟩
  clear hst
  have hst := hstn
  clear hstn
  replace hst := hst.perm (List.perm_middle.trans (List.Perm.cons _ List.perm_middle))
  have hv6 : v6.oneCell' = true := by obtain ⟨_, _, ⟨rfl, _⟩ | ⟨g, cap, cur, rfl, _⟩⟩ := hg6 <;> rfl
  refine ⟨_, rfl, ?_⟩
  first
    | refine RW.op1 rfl (runs_fieldAddr0 rfl Try.underlying36 rfl ti32 (by decide)) ?_
    | refine RW.op1 rfl (runs_fieldAddr rfl Try.underlying36 rfl ti32 (by decide)) ?_
  first
    | refine RW.op1 rfl (runs_fieldAddr0 rfl Try.underlying32 rfl ti30 (by decide)) ?_
    | refine RW.op1 rfl (runs_fieldAddr rfl Try.underlying32 rfl ti30 (by decide)) ?_
  refine RW.opE0 (runs_store1P ti30 rfl rfl hst (k := 1) rfl rfl (NoFz.zero _) hv6) ?_
  rintro w hstn
  clear hst
  have hst := hstn
  clear hstn
  try simp only [List.set_cons_zero, List.set_cons_succ] at hst
  refine RW.done ?_
  refine AQ.next ?_
  refine CW.seq ?_
  -- region 2
  refine CW.region ?_
  first
    | refine RW.op1 rfl (runs_loadN (vs := _) ag36 ti36 rfl hst (k := 0) rfl rfl rfl) ?_
    | refine RW.op1 rfl (runs_loadN (vs := _) ag36 ti36 rfl hst (k := 1) rfl rfl rfl) ?_
    | refine RW.op1 rfl (runs_loadN (vs := _) ag36 ti36 rfl hst (k := 2) rfl rfl rfl) ?_
  refine RW.opE0 (runs_storeW ti36 rfl rfl hst (k := 0) rfl rfl rfl (NoFz.zero _) (it_one it hv6)) ?_
  rintro w hstn
  clear hst
  have hst := hstn
  clear hstn
  try simp only [List.set_cons_zero, List.set_cons_succ] at hst
  refine RW.done ?_
  refine AQ.next ?_
  refine CW.ret ?_
  refine AQ.retS rfl rfl (hst.loadN (vs := [_, _, _, _, _, _, _, _, _, _, _, _, _, _, _, _, _, _, _, _, _, _, _, _, _]) (k := 0) ag36 ti36 rfl rfl rfl) ?_
  exact ⟨v6, Lv6, rfl, hst.drop1.drop1, hv6, hg6⟩
def nextR (next id : Int) : Int := if IntKind.i64.wrap (id + 1) > next then IntKind.i64.wrap (id + 1) else next
theorem wrapT_ok (n : Int) : i64ok (IntKind.i64.wrap n) := by rw [IntKind.wrap_i64]; unfold i64ok; omega
theorem nextR_ok {next id : Int} (h : i64ok next) : i64ok (nextR next id) := by
  unfold nextR
  split
  · exact wrapT_ok _
  · exact h
theorem nextR_of {next id : Int} (h : i64ok (id + 1)) : nextR next id = if id + 1 > next then id + 1 else next := by
  have : IntKind.i64.wrap (id + 1) = id + 1 := by unfold i64ok at h; rw [IntKind.wrap_i64]; omega
  unfold nextR
  rw [this]
theorem mget_t (rows : List TRow) (k : Int) : mget (trend rows) k = (pget rows k).map fun p => itv p.1 p.2 := mget_rend rows k
theorem mput_t (rows : List TRow) (k : Int) (it : It) (v : Value) : mput (trend rows) k (itv it v) = trend (pput rows k (it, v)) := mput_rend (g := fun p : It × Value => itv p.1 p.2) rows k (it, v)
theorem mdel_t (rows : List TRow) (k : Int) : mdel (trend rows) k = trend (pdel rows k) := mdel_rend rows k
set_option maxRecDepth 100000 in
set_option maxHeartbeats 1000000 in
theorem new_spec {w0 w : World} {I : Imm} {L : Own} (hst : St w0 w I L) :
    Calls Try.prog 7 #[] w fun e w' => ∃ bT Lt, e = .returned (.pointer (some ⟨bT, 0, none⟩)) ∧ St w0 w' I (Lt ++ L) ∧ TbO I [] 1 bT Lt := by
  refine enter Try.func7 rfl (N := 4) rfl rfl ?_
  simp only [List.zipIdx_cons, List.zipIdx_nil, List.map_cons, List.map_nil, Nat.zero_add, Nat.reduceAdd]
  have hle := Imm.le.refl I
  refine CW.seq ?_
  -- region 0
  refine CW.region ?_
  refine RW.op1 rfl (runs_assign rfl) ?_
  refine RW.done ?_
  refine AQ.next ?_
  refine CW.seq ?_
  -- region 1
  refine CW.region ?_
  refine RW.opE rfl (runs_makeMap hst) ?_
  rintro _ w ⟨b1, rfl, hstn⟩
  clear hst
  have hst := hstn
  clear hstn
  refine RW.op1 rfl (runs_buildF (cells := [_, _]) bz67 rfl rfl rfl rfl rfl) ?_
  refine RW.opE rfl (runs_box rfl hst) ?_
  rintro _ w ⟨b2, rfl, hstn⟩
  clear hst
  have hst := hstn
  clear hstn
  refine RW.op1 rfl (runs_assign rfl) ?_
  refine RW.done ?_
  refine AQ.next ?_
  refine CW.ret ?_
  refine AQ.ret1 rfl rfl ?_
  exact ⟨b2, [_, _], rfl, hst, b1, _, rfl, MapR.empty kI, List.nodup_nil, by simp, by unfold i64ok; decide⟩
set_option maxRecDepth 100000 in
set_option maxHeartbeats 1000000 in
theorem put_spec {w0 w : World} {I : Imm} {L : Own} {rows : List TRow} {next : Int} {bT : Nat} {Lt : Own} (hd : TbO I rows next bT Lt) (hst : St w0 w I (Lt ++ L)) {it : It} {vh : Value} (hv : SrcH I L vh it.heads) (hlen : it.heads.length ≤ 100000000) (hid : i64ok it.id) :
    Calls Try.prog 10 #[.pointer (some ⟨bT, 0, none⟩), itv it vh] w fun e w' => ∃ I' v' Lt', I.le I' ∧ e = .returned (.tuple #[]) ∧ St w0 w' I' (Lt' ++ L) ∧ TbO I' (pput rows it.id (it, v')) (nextR next it.id) bT Lt' := by
  obtain ⟨bM, oM, rfl, hm, hnd, hrows, hnx⟩ := hd
  have hv0 := hv
  obtain ⟨A, c, rfl, _⟩ := hv0
  refine enter Try.func10 rfl (N := 23) rfl rfl ?_
  simp only [List.zipIdx_cons, List.zipIdx_nil, List.map_cons, List.map_nil, Nat.zero_add, Nat.reduceAdd]
  have hle := Imm.le.refl I
  refine CW.seq ?_
  -- region 0
  refine CW.region ?_
  refine RW.opE rfl (runs_box rfl hst) ?_
  rintro _ w ⟨b1, rfl, hstn⟩
  clear hst
  have hst := hstn
  clear hstn
  refine RW.done ?_
  refine AQ.next ?_
  refine CW.seq ?_
  -- region 1
  refine CW.draw (FSt w0 I ((b1, _) :: (bT, Obj.cells #[.map (some bM), .int .i64 next] 67) :: L)) (.q 0 (.q 1 (.q 2 (.q 3 (.q 4 (.q 5 (.q 6 (.l 7 (.l 8 .nil))))))))) follows (by kernel_rfl) ⟨_, Imm.le.refl _, hst.draw.sub (((List.sublist_cons_self _ _).cons_cons _).cons_cons _)⟩ ?_
  replace hst := hst.draw
  refine DRW.q rfl rfl (fun w' hF => runs_move rfl) ?_
  refine DRW.q rfl rfl (fun w' hF => runs_nilCheck rfl) ?_
  first
    | refine DRW.q rfl rfl (fun w' hF => runs_fieldAddr0 rfl Try.underlying67 rfl ti65 (by decide)) ?_
    | refine DRW.q rfl rfl (fun w' hF => runs_fieldAddr rfl Try.underlying67 rfl ti65 (by decide)) ?_
  first
    | refine DRW.q rfl rfl (FSt.load1_own sc65 rfl (k := 0) rfl rfl) ?_
    | refine DRW.q rfl rfl (FSt.load1_own sc65 rfl (k := 1) rfl rfl) ?_
    | refine DRW.q rfl rfl (FSt.load1_own sc65 rfl (k := 2) rfl rfl) ?_
  first
    | refine DRW.q rfl rfl (fun w' hF => runs_fieldAddr0 rfl Try.underlying36 rfl ti3 (by decide)) ?_
    | refine DRW.q rfl rfl (fun w' hF => runs_fieldAddr rfl Try.underlying36 rfl ti3 (by decide)) ?_
  first
    | refine DRW.q rfl rfl (FSt.load1_own sc3 rfl (k := 0) rfl rfl) ?_
    | refine DRW.q rfl rfl (FSt.load1_own sc3 rfl (k := 1) rfl rfl) ?_
    | refine DRW.q rfl rfl (FSt.load1_own sc3 rfl (k := 2) rfl rfl) ?_
  first
    | refine DRW.q rfl rfl (FSt.loadN (vs := _) ag36 ti36 rfl (k := 0) rfl rfl rfl) ?_
    | refine DRW.q rfl rfl (FSt.loadN (vs := _) ag36 ti36 rfl (k := 1) rfl rfl rfl) ?_
    | refine DRW.q rfl rfl (FSt.loadN (vs := _) ag36 ti36 rfl (k := 2) rfl rfl rfl) ?_
  refine DRW.call rfl rfl call25 rfl rfl (own_spec hst (hv.mono (Imm.le.refl _) (fun p hp => by simp [hp])) hlen) ?_
  rintro e w ⟨v11, Lv11, rfl, hstn, hv11, hg11⟩
  clear hst
  have hst := hstn
  clear hstn
  obtain ⟨J, hJ, hstn, hfz⟩ := hg11.freeze hst
  clear hst
  have hst := hstn
  clear hstn
  replace hle := hle.trans hJ
  refine ⟨_, rfl, FSt.of hst hJ (((List.sublist_cons_self _ _).cons_cons _).cons_cons _), ?_⟩
  refine DRW.opE0 rfl (runs_mapUpdate (i := 2) (keyI Try.underlying3) Try.underlying65 rfl rfl rfl hst rfl hm) ?_
  rintro w ⟨o8, hstn, hm8⟩
  clear hst
  have hst := hstn
  clear hstn
  refine ⟨FSt.of hst hJ (((List.sublist_cons_self _ _).cons_cons _).cons_cons _), ?_⟩
  try simp only [List.set_cons_zero, List.set_cons_succ] at hst
  refine DRW.done ?_
  refine AQ.next ?_
  -- region 2
  refine CW.draw (fun _ => True) (.q 0 (.q 1 (.q 2 (.q 3 (.q 5 (.fork (.l 4 (.l 6 (.q 7 (.q 8 (.q 9 (.q 10 (.l 11 .nil))))))) (.l 6 (.q 7 (.l 4 (.q 8 (.q 9 (.q 10 (.l 11 .nil))))))))))))) follows (by kernel_rfl) trivial ?_
  replace hst := hst.draw
  refine DRW.q rfl rfl (fun w' hF => runs_move rfl) ?_
  refine DRW.q rfl rfl (fun w' hF => runs_move rfl) ?_
  refine DRW.q rfl rfl (fun w' hF => runs_nilCheck rfl) ?_
  first
    | refine DRW.q rfl rfl (fun w' hF => runs_fieldAddr0 rfl Try.underlying67 rfl ti3 (by decide)) ?_
    | refine DRW.q rfl rfl (fun w' hF => runs_fieldAddr rfl Try.underlying67 rfl ti3 (by decide)) ?_
  first
    | refine DRW.q rfl rfl (fun w' hF => runs_fieldAddr0 rfl Try.underlying36 rfl ti3 (by decide)) ?_
    | refine DRW.q rfl rfl (fun w' hF => runs_fieldAddr rfl Try.underlying36 rfl ti3 (by decide)) ?_
  refine DRW.fork ?_ ?_
  · first
      | refine DRW.op1 rfl rfl (runs_load1 sc3 rfl (hst.cell_own (k := 0) rfl rfl)) trivial ?_
      | refine DRW.op1 rfl rfl (runs_load1 sc3 rfl (hst.cell_own (k := 1) rfl rfl)) trivial ?_
      | refine DRW.op1 rfl rfl (runs_load1 sc3 rfl (hst.cell_own (k := 2) rfl rfl)) trivial ?_
    first
      | refine DRW.op1 rfl rfl (runs_load1 sc3 rfl (hst.cell_own (k := 0) rfl rfl)) trivial ?_
      | refine DRW.op1 rfl rfl (runs_load1 sc3 rfl (hst.cell_own (k := 1) rfl rfl)) trivial ?_
      | refine DRW.op1 rfl rfl (runs_load1 sc3 rfl (hst.cell_own (k := 2) rfl rfl)) trivial ?_
    refine DRW.q rfl rfl (fun w' hF => runs_addW rfl rfl) ?_
    refine DRW.q rfl rfl (fun w' hF => runs_max rfl rfl) ?_
    refine DRW.q rfl rfl (fun w' hF => runs_nilCheck rfl) ?_
    first
      | refine DRW.q rfl rfl (fun w' hF => runs_fieldAddr0 rfl Try.underlying67 rfl ti3 (by decide)) ?_
      | refine DRW.q rfl rfl (fun w' hF => runs_fieldAddr rfl Try.underlying67 rfl ti3 (by decide)) ?_
    first
      | refine DRW.opE0 rfl (runs_store1P ti3 rfl rfl hst (k := 0) rfl rfl (NoFz.zero _) rfl) ?_
      | refine DRW.opE0 rfl (runs_store1P ti3 rfl rfl hst (k := 1) rfl rfl (NoFz.zero _) rfl) ?_
      | refine DRW.opE0 rfl (runs_store1P ti3 rfl rfl hst (k := 2) rfl rfl (NoFz.zero _) rfl) ?_
    rintro w hstn
    clear hst
    have hst := hstn
    clear hstn
    try simp only [List.set_cons_zero, List.set_cons_succ] at hst
    refine ⟨trivial, ?_⟩
    refine DRW.done ?_
    refine AQ.end0 rfl ?_
    rw [mput_t] at hm8
    refine ⟨J, v11, [_, _], hle, rfl, hst.drop1, bM, o8, rfl, hm8, pput_nodup hnd _ _, fun r hr => ?_, nextR_ok hnx⟩
    rcases pput_mem hr with rfl | hr
    · exact ⟨hid, hfz, hlen⟩
    · exact ⟨(hrows r hr).1, (hrows r hr).2.1.mono hJ, (hrows r hr).2.2⟩
  first
    | refine DRW.op1 rfl rfl (runs_load1 sc3 rfl (hst.cell_own (k := 0) rfl rfl)) trivial ?_
    | refine DRW.op1 rfl rfl (runs_load1 sc3 rfl (hst.cell_own (k := 1) rfl rfl)) trivial ?_
    | refine DRW.op1 rfl rfl (runs_load1 sc3 rfl (hst.cell_own (k := 2) rfl rfl)) trivial ?_
  refine DRW.q rfl rfl (fun w' hF => runs_addW rfl rfl) ?_
  first
    | refine DRW.op1 rfl rfl (runs_load1 sc3 rfl (hst.cell_own (k := 0) rfl rfl)) trivial ?_
    | refine DRW.op1 rfl rfl (runs_load1 sc3 rfl (hst.cell_own (k := 1) rfl rfl)) trivial ?_
    | refine DRW.op1 rfl rfl (runs_load1 sc3 rfl (hst.cell_own (k := 2) rfl rfl)) trivial ?_
  refine DRW.q rfl rfl (fun w' hF => runs_max rfl rfl) ?_
  refine DRW.q rfl rfl (fun w' hF => runs_nilCheck rfl) ?_
  first
    | refine DRW.q rfl rfl (fun w' hF => runs_fieldAddr0 rfl Try.underlying67 rfl ti3 (by decide)) ?_
    | refine DRW.q rfl rfl (fun w' hF => runs_fieldAddr rfl Try.underlying67 rfl ti3 (by decide)) ?_
  first
    | refine DRW.opE0 rfl (runs_store1P ti3 rfl rfl hst (k := 0) rfl rfl (NoFz.zero _) rfl) ?_
    | refine DRW.opE0 rfl (runs_store1P ti3 rfl rfl hst (k := 1) rfl rfl (NoFz.zero _) rfl) ?_
    | refine DRW.opE0 rfl (runs_store1P ti3 rfl rfl hst (k := 2) rfl rfl (NoFz.zero _) rfl) ?_
  rintro w hstn
  clear hst
  have hst := hstn
  clear hstn
  try simp only [List.set_cons_zero, List.set_cons_succ] at hst
  refine ⟨trivial, ?_⟩
  refine DRW.done ?_
  refine AQ.end0 rfl ?_
  rw [mput_t] at hm8
  refine ⟨J, v11, [_, _], hle, rfl, hst.drop1, bM, o8, rfl, hm8, pput_nodup hnd _ _, fun r hr => ?_, nextR_ok hnx⟩
  rcases pput_mem hr with rfl | hr
  · exact ⟨hid, hfz, hlen⟩
  · exact ⟨(hrows r hr).1, (hrows r hr).2.1.mono hJ, (hrows r hr).2.2⟩
set_option maxRecDepth 100000 in
set_option maxHeartbeats 1000000 in
theorem next_spec {w0 w : World} {I : Imm} {L : Own} {rows : List TRow} {next : Int} {bT : Nat} {Lt : Own} (hd : TbO I rows next bT Lt) (hst : St w0 w I (Lt ++ L)) :
    Calls Try.prog 11 #[.pointer (some ⟨bT, 0, none⟩)] w fun e w' => e = .returned (.int .i64 next) ∧ St w0 w' I (Lt ++ L) := by
  obtain ⟨bM, oM, rfl, hm, hnd, hrows, hnx⟩ := hd
  refine enter Try.func11 rfl (N := 7) rfl rfl ?_
  simp only [List.zipIdx_cons, List.zipIdx_nil, List.map_cons, List.map_nil, Nat.zero_add, Nat.reduceAdd]
  have hle := Imm.le.refl I
  refine CW.seq ?_
  -- region 0
  refine CW.region ?_
  refine RW.op1 rfl (runs_assign rfl) ?_
  refine RW.done ?_
  refine AQ.next ?_
  refine CW.seq ?_
  -- region 1
  refine CW.region ?_
  refine RW.op1 rfl (runs_move rfl) ?_
  refine RW.op1 rfl (runs_nilCheck rfl) ?_
  first
    | refine RW.op1 rfl (runs_fieldAddr0 rfl Try.underlying67 rfl ti3 (by decide)) ?_
    | refine RW.op1 rfl (runs_fieldAddr rfl Try.underlying67 rfl ti3 (by decide)) ?_
  first
    | refine RW.op1 rfl (runs_load1 sc3 rfl (hst.cell_own (k := 0) rfl rfl)) ?_
    | refine RW.op1 rfl (runs_load1 sc3 rfl (hst.cell_own (k := 1) rfl rfl)) ?_
    | refine RW.op1 rfl (runs_load1 sc3 rfl (hst.cell_own (k := 2) rfl rfl)) ?_
  refine RW.op1 rfl (runs_assign rfl) ?_
  refine RW.done ?_
  refine AQ.next ?_
  refine CW.ret ?_
  refine AQ.ret1 rfl rfl ?_
  exact ⟨rfl, hst⟩
set_option maxRecDepth 100000 in
set_option maxHeartbeats 1000000 in
theorem drop_spec {w0 w : World} {I : Imm} {L : Own} {rows : List TRow} {next : Int} {bT : Nat} {Lt : Own} (hd : TbO I rows next bT Lt) (hst : St w0 w I (Lt ++ L)) (id : Int) :
    Calls Try.prog 9 #[.pointer (some ⟨bT, 0, none⟩), .int .i64 id] w fun e w' => ∃ Lt', e = .returned (.bool (pget rows id).isSome) ∧ St w0 w' I (Lt' ++ L) ∧ TbO I (pdel rows id) next bT Lt' := by
  obtain ⟨bM, oM, rfl, hm, hnd, hrows, hnx⟩ := hd
  obtain ⟨it, vh, hq, hvh⟩ : ∃ it vh, ((mget (trend rows) id).getD (itv zeroIt (.slice none 0 0))) = itv it vh ∧ vh.oneCell' = true := by
    rw [mget_t]
    cases hp : pget rows id with
    | none => exact ⟨_, _, rfl, rfl⟩
    | some p =>
      obtain ⟨it, vh⟩ := p
      have h2 := (hrows _ (pget_mem hp)).2.1
      exact ⟨it, vh, rfl, RdL.one h2⟩
  refine enter Try.func9 rfl (N := 22) rfl rfl ?_
  simp only [List.zipIdx_cons, List.zipIdx_nil, List.map_cons, List.map_nil, Nat.zero_add, Nat.reduceAdd]
  have hle := Imm.le.refl I
  refine CW.seq ?_
  -- region 0
  refine CW.region ?_
  refine RW.op1 rfl (runs_assign rfl) ?_
  refine RW.done ?_
  refine AQ.next ?_
  refine CW.seq ?_
  -- region 1
  refine CW.region ?_
  refine RW.op1 rfl (runs_move rfl) ?_
  refine RW.op1 rfl (runs_nilCheck rfl) ?_
  first
    | refine RW.op1 rfl (runs_fieldAddr0 rfl Try.underlying67 rfl ti65 (by decide)) ?_
    | refine RW.op1 rfl (runs_fieldAddr rfl Try.underlying67 rfl ti65 (by decide)) ?_
  first
    | refine RW.op1 rfl (runs_load1 sc65 rfl (hst.cell_own (k := 0) rfl rfl)) ?_
    | refine RW.op1 rfl (runs_load1 sc65 rfl (hst.cell_own (k := 1) rfl rfl)) ?_
    | refine RW.op1 rfl (runs_load1 sc65 rfl (hst.cell_own (k := 2) rfl rfl)) ?_
  refine RW.op1 rfl (runs_move rfl) ?_
  refine RW.op1 rfl (runs_lookupOk (i := 1) (keyI Try.underlying3) Try.underlying65 ti36 rfl rfl hst rfl hm) ?_
  rw [show (Value.agg #[.int .i64 0, .int .i64 0, .int .i64 0, .string .empty, .string .empty, .string .empty, .slice none 0 0, .string .empty, .int .i64 0, .int .i64 0, .string .empty, .string .empty, .int .i64 0, .string .empty, .string .empty, .string .empty, .int .i64 0, .int .i64 0, .int .i64 0, .bool false, .string .empty, .string .empty, .int .i64 0, .int .i64 0, .bool false]) = itv zeroIt (.slice none 0 0) from rfl, hq]
  refine RW.op1 rfl (runs_move rfl) ?_
  refine RW.op1 rfl (runs_extract rfl rfl) ?_
  refine RW.op1 rfl (runs_extract rfl rfl) ?_
  refine RW.opE rfl (runs_alloc ti36 hst) ?_
  rintro _ w ⟨b1, rfl, hstn⟩
  clear hst
  have hst := hstn
  clear hstn
  refine RW.opE0 (runs_storeW ti36 rfl rfl hst (k := 0) rfl rfl rfl (NoFz.zero _) (it_one it hvh)) ?_
  rintro w hstn
  clear hst
  have hst := hstn
  clear hstn
  try simp only [List.set_cons_zero, List.set_cons_succ] at hst
  refine RW.op1 rfl (runs_assign rfl) ?_
  refine RW.done ?_
  refine AQ.next ?_
  refine CW.seq ?_
  -- region 2
  refine CW.region ?_
  refine RW.op1 rfl (runs_move rfl) ?_
  refine RW.op1 rfl (runs_nilCheck rfl) ?_
  first
    | refine RW.op1 rfl (runs_fieldAddr0 rfl Try.underlying67 rfl ti65 (by decide)) ?_
    | refine RW.op1 rfl (runs_fieldAddr rfl Try.underlying67 rfl ti65 (by decide)) ?_
  first
    | refine RW.op1 rfl (runs_load1 sc65 rfl (hst.cell_own (k := 0) rfl rfl)) ?_
    | refine RW.op1 rfl (runs_load1 sc65 rfl (hst.cell_own (k := 1) rfl rfl)) ?_
    | refine RW.op1 rfl (runs_load1 sc65 rfl (hst.cell_own (k := 2) rfl rfl)) ?_
  refine RW.op1 rfl (runs_move rfl) ?_
  refine RW.opE0v (runs_delete (i := 2) (keyI Try.underlying3) Try.underlying65 rfl rfl hst rfl hm) ?_
  rintro u w ⟨o8, hstn, hm8⟩
  clear hst
  have hst := hstn
  clear hstn
  try simp only [List.set_cons_zero, List.set_cons_succ] at hst
  refine RW.done ?_
  refine AQ.next ?_
  refine CW.seq ?_
  -- region 3
  refine CW.region ?_
  refine RW.op1 rfl (runs_move rfl) ?_
  refine RW.op1 rfl (runs_assign rfl) ?_
  refine RW.done ?_
  refine AQ.next ?_
  refine CW.ret ?_
  refine AQ.ret1 rfl rfl ?_
  rw [mdel_t] at hm8
  refine ⟨[_, _], ?_, hst.drop1, bM, o8, rfl, hm8, pdel_nodup hnd _, fun r hr => hrows r (pdel_mem hr), hnx⟩
  rw [mget_t, Option.isSome_map]
set_option maxRecDepth 100000 in
set_option maxHeartbeats 1000000 in
theorem get_spec {w0 w : World} {I : Imm} {L : Own} {rows : List TRow} {next : Int} {bT : Nat} {Lt : Own} (hd : TbO I rows next bT Lt) (hst : St w0 w I (Lt ++ L)) (id : Int) :
    Calls Try.prog 13 #[.pointer (some ⟨bT, 0, none⟩), .int .i64 id] w fun e w' => ∃ (it : It) (v' : Value) (Lv' : Own), e = .returned (.tuple #[itv it v', .bool (pget rows id).isSome]) ∧ St w0 w' I (Lv' ++ (Lt ++ L)) ∧ v'.oneCell' = true ∧ Grow 54 2 v' (it.heads).length ((it.heads).flatMap hrow) Lv' ∧ it.heads.length ≤ 100000000 ∧ ((pget rows id).map Prod.fst).getD zeroIt = it := by
  obtain ⟨bM, oM, rfl, hm, hnd, hrows, hnx⟩ := hd
  obtain ⟨it, vh, hq, hvs, hvl, hit⟩ : ∃ it vh, ((mget (trend rows) id).getD (itv zeroIt (.slice none 0 0))) = itv it vh ∧ RdH I vh it.heads ∧ it.heads.length ≤ 100000000 ∧ ((pget rows id).map Prod.fst).getD zeroIt = it := by
    rw [mget_t]
    cases hp : pget rows id with
    | none => exact ⟨zeroIt, _, rfl, RdL.nil 2, by decide, rfl⟩
    | some p =>
      obtain ⟨it, vh⟩ := p
      have h2 := hrows _ (pget_mem hp)
      exact ⟨it, vh, rfl, h2.2.1, h2.2.2, rfl⟩
  refine enter Try.func13 rfl (N := 20) rfl rfl ?_
  simp only [List.zipIdx_cons, List.zipIdx_nil, List.map_cons, List.map_nil, Nat.zero_add, Nat.reduceAdd]
  have hle := Imm.le.refl I
  refine CW.seq ?_
  -- region 0
  refine CW.region ?_
  refine RW.opE rfl (runs_alloc ti36 hst) ?_
  rintro _ w ⟨b1, rfl, hstn⟩
  clear hst
  have hst := hstn
  clear hstn
  refine RW.op1 rfl (runs_assign rfl) ?_
  refine RW.done ?_
  refine AQ.next ?_
  refine CW.seq ?_
  -- region 1
  refine CW.region ?_
  refine RW.op1 rfl (runs_move rfl) ?_
  refine RW.op1 rfl (runs_nilCheck rfl) ?_
  first
    | refine RW.op1 rfl (runs_fieldAddr0 rfl Try.underlying67 rfl ti65 (by decide)) ?_
    | refine RW.op1 rfl (runs_fieldAddr rfl Try.underlying67 rfl ti65 (by decide)) ?_
  first
    | refine RW.op1 rfl (runs_load1 sc65 rfl (hst.cell_own (k := 0) rfl rfl)) ?_
    | refine RW.op1 rfl (runs_load1 sc65 rfl (hst.cell_own (k := 1) rfl rfl)) ?_
    | refine RW.op1 rfl (runs_load1 sc65 rfl (hst.cell_own (k := 2) rfl rfl)) ?_
  refine RW.op1 rfl (runs_move rfl) ?_
  refine RW.op1 rfl (runs_lookupOk (i := 2) (keyI Try.underlying3) Try.underlying65 ti36 rfl rfl hst rfl hm) ?_
  rw [show (Value.agg #[.int .i64 0, .int .i64 0, .int .i64 0, .string .empty, .string .empty, .string .empty, .slice none 0 0, .string .empty, .int .i64 0, .int .i64 0, .string .empty, .string .empty, .int .i64 0, .string .empty, .string .empty, .string .empty, .int .i64 0, .int .i64 0, .int .i64 0, .bool false, .string .empty, .string .empty, .int .i64 0, .int .i64 0, .bool false]) = itv zeroIt (.slice none 0 0) from rfl, hq]
  refine RW.op1 rfl (runs_move rfl) ?_
  refine RW.op1 rfl (runs_extract rfl rfl) ?_
  refine RW.op1 rfl (runs_extract rfl rfl) ?_
  refine RW.opE rfl (runs_alloc ti36 hst) ?_
  rintro _ w ⟨b2, rfl, hstn⟩
  clear hst
  have hst := hstn
  clear hstn
  refine RW.opE0 (runs_storeW ti36 rfl rfl hst (k := 0) rfl rfl rfl (NoFz.zero _) (it_one it (RdL.one hvs))) ?_
  rintro w hstn
  clear hst
  have hst := hstn
  clear hstn
  try simp only [List.set_cons_zero, List.set_cons_succ] at hst
  refine RW.op1 rfl (runs_assign rfl) ?_
  refine RW.done ?_
  refine AQ.next ?_
  refine CW.seq ?_
  -- region 2
  refine CW.region ?_
  first
    | refine RW.op1 rfl (runs_loadN (vs := _) ag36 ti36 rfl hst (k := 0) rfl rfl rfl) ?_
    | refine RW.op1 rfl (runs_loadN (vs := _) ag36 ti36 rfl hst (k := 1) rfl rfl rfl) ?_
    | refine RW.op1 rfl (runs_loadN (vs := _) ag36 ti36 rfl hst (k := 2) rfl rfl rfl) ?_
  refine RW.call rfl call25 rfl rfl (own_spec hst (hvs.srcH _) hvl) ?_
  rintro e w ⟨v18, Lv18, rfl, hstn, hv18, hg18⟩
  clear hst
  have hst := hstn
  clear hstn
  replace hst := hst.perm (List.perm_middle.trans (List.Perm.cons _ List.perm_middle))
  refine ⟨_, rfl, ?_⟩
  refine RW.op1 rfl (runs_move rfl) ?_
  refine RW.opE0 (runs_storeW ti36 rfl rfl hst (k := 1) rfl rfl rfl (NoFz.zero _) (it_one it hv18)) ?_
  rintro w hstn
  clear hst
  have hst := hstn
  clear hstn
  try simp only [List.set_cons_zero, List.set_cons_succ] at hst
  refine RW.op1 rfl (runs_assign rfl) ?_
  refine RW.done ?_
  refine AQ.next ?_
  refine CW.ret ?_
  refine AQ.retL (rs := [.cell 4 36, .tmp 5]) (vs := [_, _]) rfl ⟨⟨_, rfl, hst.loadN (vs := [_, _, _, _, _, _, _, _, _, _, _, _, _, _, _, _, _, _, _, _, _, _, _, _, _]) (k := 1) ag36 ti36 rfl rfl rfl⟩, rfl, trivial⟩ (by simp) ?_
  exact ⟨it, v18, Lv18, by rw [mget_t, Option.isSome_map], hst.drop1.drop1, hv18, hg18, hvl, hit⟩
end Go.Proofs.YtlmmpcdjkpibcaaX
