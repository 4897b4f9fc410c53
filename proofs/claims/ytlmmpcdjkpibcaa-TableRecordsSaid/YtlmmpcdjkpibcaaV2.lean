/- A table's IDs: what these come to. -/
import Derived.Test.YtlmmpcdjkpibcaaT
import Derived.Test.YtlmmpcdjkpibcaaV1
import Derived.Test.YtlmmpcdjkpibcaaSH
import Derived.Test.YtlmmpcdjkpibcaaSI
namespace Go.Proofs.YtlmmpcdjkpibcaaX
set_option linter.unusedVariables false
set_option linter.unusedSimpArgs false
open Go Go.RowKit Go.Proofs

theorem sorts_spec (m : Nat) : AnyZI.SortsIn Try.prog Try.sortedA_ren Fence.wide m :=
  ⟨fun blk off cap ss W hH hblk hsz => callsIn_wide.2 (Try.slices_Sort_int blk off cap ss W hH hblk hsz), fun p cap W => callsIn_wide.2 (Try.slices_Sort_int_none p cap W)⟩
theorem keysA_spec {w0 w : World} {I : Imm} {L : Own} (hst : St w0 w I L) (b : Nat) : Calls Try.prog 27 #[.map (some b)] w fun e w' => ∃ b1, e = .returned (.func (.func 47) #[] #[.pointer (some ⟨b1, 0, none⟩)]) ∧ St w0 w' I ((b1, .cells #[.map (some b)] 65) :: L) := by
  have h : CallsIn Fence.wide 5 Try.prog 27 #[.map (some b)] w fun e w' => e = .returned (.func (.func 47) #[] #[.pointer (some ⟨w.heap.size, 0, none⟩)]) ∧ w' = w.alloc (.cells #[.map (some b)] 65) := AnyZI.keys_in Try.keysA Fence.wide 5 trivial rfl (some b) w
  refine (callsIn_wide.1 h).mono ?_
  rintro e w' ⟨rfl, rfl⟩
  exact ⟨_, rfl, hst.heap_new _⟩
theorem sortedA_spec {w0 w : World} {I : Imm} {L : Own} {b1 bM : Nat} {oM : Obj} {rows : List (Int × Value)} (hst : St w0 w I ((b1, .cells #[.map (some bM)] 65) :: L)) (hin : (bM, oM) ∈ L) (hm : MapR kI oM rows) (hnd : (rows.map Prod.fst).Nodup) (hw : ∀ r ∈ rows, i64ok r.1) (hz : rows.length ≤ 1000000) :
    Calls Try.prog 26 #[.func (.func 47) #[] #[.pointer (some ⟨b1, 0, none⟩)]] w fun e w' => ∃ I' v, I.le I' ∧ e = .returned v ∧ St w0 w' I' L ∧ RdI I' v ((rows.map Prod.fst).mergeSort fun x y => decide (x ≤ y)) := by
  have hb : w.heap[bM]? = some oM := hst.own _ (List.mem_cons_of_mem _ hin)
  obtain ⟨D, hown, hperm, hsz⟩ := hm.owns (P := Try.prog) (kt := 3) Try.underlying3 hb hnd (fun r hr => wf_of (hw r hr)) (by unfold maxLen; omega)
  have hseq : SeqGives Fence.wide 2 Try.prog 47 #[.pointer (some ⟨b1, 0, none⟩)] encZ (fun ss => ss.Perm (intKeys D)) (Maps.size D) w :=
    AnyZI.keys_gives (ρ := Try.keysA_ren) { Try.keysA with } Fence.wide _ trivial rfl (by omega) b1 bM _ D w (hst.lt_own (p := (b1, _)) (List.mem_cons_self ..)) (hst.cell_own (k := 0) rfl rfl) hown
  have h := AnyZI.sorted_in Try.sortedA Fence.wide 5 trivial trivial trivial trivial rfl (by omega) (sorts_spec _) (enters_of Try.func46 (by kernel_rfl) rfl) 47 #[.pointer (some ⟨b1, 0, none⟩)] trivial (enters_of Try.func47 (by kernel_rfl) rfl) _ _ (by rw [hsz]; unfold maxLen; omega) (by rw [hsz]; omega) _ hseq
  change CallsIn Fence.wide 5 Try.prog 26 _ _ _ at h
  refine (callsIn_wide.1 h).mono ?_
  rintro e w' ⟨v, ss, rfl, hS, hrow, _, hbl⟩
  have hrow2 : w'.ownsRow w.heap.size 3 1 v ss.length ((ss.mergeSort (fun x y => decide (x ≤ y))).map encZ) := hrow
  obtain ⟨Lv, hst2, hg⟩ := hst.drop1.ownsRow hbl hrow2 (by
    intro u hu
    obtain ⟨x, _, rfl⟩ := List.mem_map.1 hu
    rfl)
  obtain ⟨I', h1, h2, h3⟩ := hg.freeze hst2
  refine ⟨I', v, h1, rfl, h2, ?_⟩
  have e : ss.mergeSort (fun x y => decide (x ≤ y)) = (rows.map Prod.fst).mergeSort (fun x y => decide (x ≤ y)) := mergeSort_of_perm_i (hS.trans hperm)
  have hl : ss.length = ((rows.map Prod.fst).mergeSort fun x y => decide (x ≤ y)).length := by rw [← e, List.length_mergeSort]
  rw [e, hl] at h3
  exact h3
set_option maxRecDepth 100000 in
set_option maxHeartbeats 1000000 in
theorem ids_spec {w0 w : World} {I : Imm} {L : Own} {rows : List TRow} {next : Int} {bT : Nat} {Lt : Own} (hd : TbO I rows next bT Lt) (hst : St w0 w I (Lt ++ L)) (hz : rows.length ≤ 1000000) :
    Calls Try.prog 12 #[.pointer (some ⟨bT, 0, none⟩)] w fun e w' => ∃ I' v, I.le I' ∧ e = .returned v ∧ St w0 w' I' (Lt ++ L) ∧ RdI I' v (keysUp rows) := by
  obtain ⟨bM, oM, rfl, hm, hnd, hrows, hnx⟩ := hd
  refine enter Try.func12 rfl (N := 9) rfl rfl ?_
  simp only [List.zipIdx_cons, List.zipIdx_nil, List.map_cons, List.map_nil, Nat.zero_add, Nat.reduceAdd]
  have hle := Imm.le.refl I
  refine CW.seq ?_
  -- region 0
  refine CW.region ?_
  refine RW.op1 rfl (runs_assign rfl) ?_
  refine RW.done ?_
  refine AQ.next ?_
  refine CW.seq ?_
  -- region 1
  refine CW.region ?_
  refine RW.op1 rfl (runs_move rfl) ?_
  refine RW.op1 rfl (runs_nilCheck rfl) ?_
  first
    | refine RW.op1 rfl (runs_fieldAddr0 rfl Try.underlying67 rfl ti65 (by decide)) ?_
    | refine RW.op1 rfl (runs_fieldAddr rfl Try.underlying67 rfl ti65 (by decide)) ?_
  first
    | refine RW.op1 rfl (runs_load1 sc65 rfl (hst.cell_own (k := 0) rfl rfl)) ?_
    | refine RW.op1 rfl (runs_load1 sc65 rfl (hst.cell_own (k := 1) rfl rfl)) ?_
    | refine RW.op1 rfl (runs_load1 sc65 rfl (hst.cell_own (k := 2) rfl rfl)) ?_
  refine RW.call rfl call27 rfl rfl (keysA_spec hst bM) ?_
  rintro e w ⟨b7, rfl, hstn⟩
  clear hst
  have hst := hstn
  clear hstn
  refine ⟨_, rfl, ?_⟩
  refine RW.call rfl call26 rfl rfl (sortedA_spec hst (show (bM, oM) ∈ _ from by simp) hm (by unfold trend; rw [rend_keys]; exact hnd) (fun r hr => by
    unfold trend rend at hr
    obtain ⟨q, hq, rfl⟩ := List.mem_map.1 hr
    exact (hrows q hq).1) (by unfold trend; rw [rend_len]; exact hz)) ?_
  rintro e w ⟨I8, v8, hI8, rfl, hstn, hv8⟩
  clear hst
  have hst := hstn
  clear hstn
  replace hle := hle.trans hI8
  refine ⟨_, rfl, ?_⟩
  refine RW.op1 rfl (runs_assign rfl) ?_
  refine RW.done ?_
  refine AQ.next ?_
  refine CW.ret ?_
  refine AQ.ret1 rfl rfl ?_
  refine ⟨_, v8, hle, rfl, hst, ?_⟩
  unfold trend at hv8
  rw [rend_keys] at hv8
  exact hv8
end Go.Proofs.YtlmmpcdjkpibcaaX
