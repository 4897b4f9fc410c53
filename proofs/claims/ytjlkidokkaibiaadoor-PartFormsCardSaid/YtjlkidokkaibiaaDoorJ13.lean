/- Tags, spans by hand. -/
import Derived.Test.YtjlkidokkaibiaaDoorT
import Derived.Test.YtjlkidokkaibiaaDoorJ10
import Derived.Test.YtjlkidokkaibiaaDoorXT
import Derived.Test.YtjlkidokkaibiaaDoorXU
namespace Go.Proofs.YtjlkidokkaibiaaDoorX
set_option linter.unusedVariables false
set_option linter.unusedSimpArgs false
open Go Go.RowKit Go.Proofs

def tabT : List HRow := [(⟨#[34, 97, 34]⟩, ⟨#[34, 97, 34]⟩), (⟨#[34, 49, 50, 51, 52, 53, 54, 55, 56, 57, 48, 34]⟩, ⟨#[34, 49, 50, 51, 52, 53, 54, 55, 56, 57, 48, 34]⟩), (⟨#[34, 49, 50, 51, 52, 53, 54, 55, 56, 57, 48, 49, 34]⟩, ⟨#[]⟩), (⟨#[34, 34]⟩, ⟨#[]⟩), (⟨#[97]⟩, ⟨#[]⟩), (⟨#[34, 97]⟩, ⟨#[]⟩), (⟨#[87, 47, 34, 97, 34]⟩, ⟨#[]⟩), (⟨#[34, 97, 32, 98, 34]⟩, ⟨#[]⟩), (⟨#[34, 97, 34, 98, 34]⟩, ⟨#[]⟩), (⟨#[34]⟩, ⟨#[]⟩), (⟨#[]⟩, ⟨#[]⟩)]
def badT : List ByteArray := [⟨#[]⟩, ⟨#[98, 121, 116, 101, 115]⟩, ⟨#[98, 121, 116, 101, 115, 32, 51, 45, 55]⟩, ⟨#[98, 121, 116, 101, 115, 32, 51, 45, 47, 56]⟩, ⟨#[98, 121, 116, 101, 115, 32, 45, 55, 47, 56]⟩, ⟨#[98, 121, 116, 101, 115, 32, 51, 45, 55, 47]⟩, ⟨#[98, 121, 116, 101, 115, 32, 56, 45, 55, 47, 57]⟩, ⟨#[98, 121, 116, 101, 115, 32, 51, 45, 56, 47, 56]⟩, ⟨#[66, 121, 116, 101, 115, 32, 51, 45, 55, 47, 56]⟩, ⟨#[98, 121, 116, 101, 115, 32, 32, 51, 45, 55, 47, 56]⟩, ⟨#[98, 121, 116, 101, 115, 32, 51, 45, 55, 47, 56, 32]⟩, ⟨#[98, 121, 116, 101, 115, 32, 120, 45, 55, 47, 56]⟩, ⟨#[98, 121, 116, 101, 115, 32, 51, 45, 55, 47, 49, 50, 51, 52, 53, 54, 55]⟩, ⟨#[98, 121, 116, 101, 115, 32, 42, 47, 56]⟩, ⟨#[98, 121, 116, 101, 115, 32, 51, 45, 55, 45, 56, 47, 57]⟩]
def zTag : ByteArray := ⟨#[34, 122, 34]⟩
def asks (x : ByteArray) : List HRow := [(⟨#[120]⟩, ⟨#[]⟩), (⟨#[69, 116, 97, 103]⟩, x), (⟨#[101, 116, 97, 103]⟩, zTag)]
theorem asks_get (x : ByteArray) : getH etagS (asks x) = (x, true) := by
  simp only [getH, asks, lowEq, ByteArray.toList_eq]
  rfl
theorem asks_tag (x : ByteArray) : tagR (asks x) = if strongB x.toList = true then x else ⟨#[]⟩ := by
  unfold tagR
  rw [asks_get]
theorem tabT_ok : ∀ r ∈ tabT, tagR (asks r.1) = r.2 ∧ r.1.size ≤ 20 := by
  intro r hr
  rw [asks_tag]
  simp only [tabT, List.mem_cons, List.not_mem_nil, or_false] at hr
  rcases hr with rfl | rfl | rfl | rfl | rfl | rfl | rfl | rfl | rfl | rfl | rfl
  all_goals
    simp only [ByteArray.toList_eq]
    exact ⟨rfl, Nat.le_of_ble_eq_true rfl⟩
def refSpanL (l : List UInt8) : Int × Int × Int × Bool :=
  if (decide (6 ≤ l.length) && (l.take 6 == [98, 121, 116, 101, 115, 32])) = true then
    let x := untilL [45] (l.drop 6)
    if x.2 = [] then Z3 else
    let y := untilL [47] (x.2.drop 1)
    if y.2 = [] then Z3 else span3 (numberR x.1) (numberR y.1) (numberR (y.2.drop 1))
  else Z3
theorem spanL_law (s : ByteArray) : spanR s = refSpanL s.toList := by
  rw [← span_law]
  unfold refSpanR refSpanL preS
  rw [extract_list, show bytesS.toList = [98, 121, 116, 101, 115, 32] by rw [ByteArray.toList_eq]; rfl, List.drop_zero, Nat.sub_zero, show bytesS.size = 6 from rfl, ← size_toList]
  rw [show decide (((6 : Nat) : Int) ≤ (s.toList.length : Int)) = decide (6 ≤ s.toList.length) by apply decide_eq_decide.2; omega]
theorem badT_ok : ∀ s ∈ badT, (spanR s).2.2.2 = false ∧ s.size ≤ 100 := by
  intro r hr
  rw [spanL_law]
  simp only [badT, List.mem_cons, List.not_mem_nil, or_false] at hr
  rcases hr with rfl | rfl | rfl | rfl | rfl | rfl | rfl | rfl | rfl | rfl | rfl | rfl | rfl | rfl | rfl
  all_goals
    simp only [ByteArray.toList_eq]
    exact ⟨by decide, Nat.le_of_ble_eq_true rfl⟩
def goodT : ByteArray := ⟨#[98, 121, 116, 101, 115, 32, 51, 45, 55, 47, 56]⟩
theorem good_ok : spanR goodT = (3, 7, 8, true) := by
  rw [spanL_law]
  simp only [ByteArray.toList_eq]
  decide
def tTag : ByteArray := ⟨#[34, 116, 34]⟩
def tHeads : List HRow := [(rangeN, ⟨#[98, 121, 116, 101, 115, 61, 49, 50, 45]⟩), (ifN, tTag)]
theorem tHeads_ok : rheadsR 12 tTag = tHeads := by
  unfold rheadsR tHeads rangeV
  rw [if_neg (by rw [ByteArray.toList_eq]; decide)]
  rw [show Lib.decDigits (12 : Int).toNat = [49, 50] by
    show Lib.decDigits 12 = _
    unfold Lib.decDigits
    rw [dif_neg (by decide)]
    unfold Lib.decDigits
    rw [dif_pos (by decide)]
    rfl]
  congr 2
theorem noHeads : rheadsR 12 ⟨#[]⟩ = [] := by
  unfold rheadsR
  rw [if_pos (.inr (by rw [ByteArray.toList_eq]; decide))]
theorem negHeads : rheadsR (-1) tTag = [] := rfl
theorem nilTag : tagR [] = ⟨#[]⟩ := by
  unfold tagR
  rw [show getH etagS [] = (⟨#[]⟩, false) from rfl]
  split <;> rfl
theorem sat_mem {l : List ByteArray} {k : Int} (h0 : 0 ≤ k) (h1 : k < l.length) : sat l k ∈ l := by
  obtain ⟨j, rfl⟩ : ∃ j : Nat, k = (j : Int) := ⟨k.toNat, by omega⟩
  rw [sat_get (show j < l.length by omega)]
  exact List.getElem_mem _
set_option maxRecDepth 100000 in
set_option maxHeartbeats 4000000 in
theorem pforms_spec {w0 w : World} {I : Imm} {L : Own} (hst : St w0 w I L) (hT : TabK I) (n : Int) (hn : i64ok n) :
    Calls Tryd.prog 3 #[.int .i64 n] w fun e w' => e = .returned (.bool true) ∧ ∃ I', I.le I' ∧ St w0 w' I' L := by
  refine enter Tryd.func3 rfl (N := 104) rfl rfl ?_
  simp only [List.zipIdx_cons, List.zipIdx_nil, List.map_cons, List.map_nil, Nat.zero_add, Nat.reduceAdd]
  have hle := Imm.le.refl I
  refine CW.seq ?_
  -- region 0
  refine CW.region ?_
  refine RW.op1 rfl (runs_assign rfl) ?_
  refine RW.done ?_
  refine AQ.next ?_
  refine CW.seq ?_
  refine CW.seq ?_
  -- region 1
  refine CW.region ?_
  refine RW.op1 rfl (runs_buildA (zc := [(.string .empty), (.string .empty)]) (size := 1) (cells := [_, _]) (by unfold BA; kernel_rfl) rfl rfl rfl rfl rfl) ?_
  refine RW.op1 rfl (runs_buildA (zc := [(.string .empty), (.string .empty)]) (size := 1) (cells := [_, _]) (by unfold BA; kernel_rfl) rfl rfl rfl rfl rfl) ?_
  refine RW.op1 rfl (runs_buildA (zc := [(.string .empty), (.string .empty)]) (size := 1) (cells := [_, _]) (by unfold BA; kernel_rfl) rfl rfl rfl rfl rfl) ?_
  refine RW.op1 rfl (runs_buildA (zc := [(.string .empty), (.string .empty)]) (size := 1) (cells := [_, _]) (by unfold BA; kernel_rfl) rfl rfl rfl rfl rfl) ?_
  refine RW.op1 rfl (runs_buildA (zc := [(.string .empty), (.string .empty)]) (size := 1) (cells := [_, _]) (by unfold BA; kernel_rfl) rfl rfl rfl rfl rfl) ?_
  refine RW.op1 rfl (runs_buildA (zc := [(.string .empty), (.string .empty)]) (size := 1) (cells := [_, _]) (by unfold BA; kernel_rfl) rfl rfl rfl rfl rfl) ?_
  refine RW.op1 rfl (runs_buildA (zc := [(.string .empty), (.string .empty)]) (size := 1) (cells := [_, _]) (by unfold BA; kernel_rfl) rfl rfl rfl rfl rfl) ?_
  refine RW.op1 rfl (runs_buildA (zc := [(.string .empty), (.string .empty)]) (size := 1) (cells := [_, _]) (by unfold BA; kernel_rfl) rfl rfl rfl rfl rfl) ?_
  refine RW.op1 rfl (runs_buildA (zc := [(.string .empty), (.string .empty)]) (size := 1) (cells := [_, _]) (by unfold BA; kernel_rfl) rfl rfl rfl rfl rfl) ?_
  refine RW.op1 rfl (runs_buildA (zc := [(.string .empty), (.string .empty)]) (size := 1) (cells := [_, _]) (by unfold BA; kernel_rfl) rfl rfl rfl rfl rfl) ?_
  refine RW.op1 rfl (runs_buildA (zc := [(.string .empty), (.string .empty)]) (size := 1) (cells := [_, _]) (by unfold BA; kernel_rfl) rfl rfl rfl rfl rfl) ?_
  refine RW.opE rfl (runs_litF (xs := [.agg #[_, _], .agg #[_, _], .agg #[_, _], .agg #[_, _], .agg #[_, _], .agg #[_, _], .agg #[_, _], .agg #[_, _], .agg #[_, _], .agg #[_, _], .agg #[_, _]]) Tryd.underlying23 ti22 (by decide) rfl rfl rfl rfl rfl hst (by decide)) ?_
  rintro u1 w ⟨Lv1, hstn, hg1⟩
  clear hst
  have hst := hstn
  clear hstn
  obtain ⟨J1, hJ1, hstn, h1⟩ := Grow.freeze hg1 hst
  clear hst
  have hst := hstn
  clear hstn
  replace hT := hT.mono hJ1
  replace hle := hle.trans hJ1
  try simp only [List.nil_append] at h1
  replace h1 : RdH J1 u1 tabT := h1
  obtain ⟨vR, hvR⟩ : ∃ v, v = u1 := ⟨_, rfl⟩
  rw [← hvR] at h1 ⊢
  clear hvR
  have hR := h1
  refine RW.op1 rfl (RdL.len Tryd.underlying23 rfl hR) ?_
  refine RW.op1 rfl (runs_move rfl) ?_
  refine RW.done ?_
  refine AQ.next ?_
  refine CW.block ?_
  -- loop 1
  refine CW.loop (Nat × Imm) (fun x w => I.le x.2 ∧ TabK x.2 ∧ RdH x.2 vR tabT ∧ St w0 w x.2 L ∧ x.1 ≤ 11) (fun x => [(0, .int .i64 n), (26, vR), (27, .int .i64 (11 : Nat)), (28, .int .i64 (x.1 : Int))]) (fun x => 11 - x.1) ⟨(0, _), ⟨hle, hT, hR, hst, Nat.zero_le _⟩, ⟨rfl, rfl, rfl, rfl, trivial⟩⟩ ?_
  clear hle hT hR
  rintro ⟨k, I3⟩ w ⟨hle, hT, hR, hstn, hk⟩
  dsimp only at hle hT hR hstn hk ⊢
  clear hst
  have hst := hstn
  clear hstn
  refine CW.seq ?_
  -- region 2
  refine CW.region ?_
  refine RW.op1 rfl (runs_lss rfl rfl) ?_
  refine RW.done ?_
  refine AQ.next ?_
  refine CW.seq ?_
  refine CW.cond rfl (fun hc29 => ?_) (fun hc29 => ?_)
  · have hcb29 := hc29
    try simp only [decide_eq_true_eq, decide_eq_false_iff_not] at hc29
    have hk1 : k < tabT.length := by show k < 11; omega
    obtain ⟨⟨x0, x1⟩, hr⟩ : ∃ r, tabT[k] = r := ⟨_, rfl⟩
    have hr2 : tabT[k]? = some (x0, x1) := by rw [List.getElem?_eq_getElem hk1, hr]
    have hro := tabT_ok (x0, x1) (by rw [← hr]; exact List.getElem_mem _)
    dsimp only at hro
    refine CW.skip ?_
    refine AQ.next ?_
    refine CW.seq ?_
    refine CW.block ?_
    refine CW.seq ?_
    -- region 3
    refine CW.region ?_
    refine RW.op1 rfl (RdL.indexAddr Tryd.underlying23 ti22 (by decide) rfl rfl hR (by show 0 ≤ (k : Int) ∧ (k : Int) < 11; omega)) ?_
    refine RW.op1 rfl (RdL.loadRow (row := hrow (x0, x1)) ag22 ti22 rfl hR hst rfl (hrow_at hr2)) ?_
    refine RW.opE rfl (runs_alloc ti22 hst) ?_
    rintro _ w ⟨b2, rfl, hstn⟩
    clear hst
    have hst := hstn
    clear hstn
    first
      | refine RW.opE0 (runs_storeW ti22 rfl rfl hst (k := 0) rfl rfl rfl (NoFz.zero _) rfl) ?_
      | refine RW.opE0 (runs_storeP ti22 rfl rfl hst (k := 0) rfl rfl rfl (NoFz.zero _) rfl) ?_
      | refine RW.opE0 (runs_storeW ti22 rfl rfl hst (k := 1) rfl rfl rfl (NoFz.zero _) rfl) ?_
      | refine RW.opE0 (runs_storeP ti22 rfl rfl hst (k := 1) rfl rfl rfl (NoFz.zero _) rfl) ?_
      | refine RW.opE0 (runs_storeW ti22 rfl rfl hst (k := 2) rfl rfl rfl (NoFz.zero _) rfl) ?_
      | refine RW.opE0 (runs_storeP ti22 rfl rfl hst (k := 2) rfl rfl rfl (NoFz.zero _) rfl) ?_
    rintro w hstn
    clear hst
    have hst := hstn
    clear hstn
    try simp only [List.set_cons_zero, List.set_cons_succ] at hst
    refine RW.done ?_
    refine AQ.next ?_
    refine CW.seq ?_
    -- region 4
    refine CW.drawSt hst (.q 0 (.q 1 (.q 2 (.q 3 (.q 4 (.q 7 (.q 8 (.l 5 (.l 6 (.q 9 .nil)))))))))) follows (by kernel_rfl) (fun w hst => ?_)
    refine DRW.q rfl rfl (fun w' hF => runs_buildF (cells := [_, _]) bz26 rfl rfl rfl rfl rfl) ?_
    refine DRW.q rfl rfl (fun w' hF => runs_indexAddrA Tryd.underlying22 ti9 rfl rfl (by omega)) ?_
    first
      | refine DRW.q rfl rfl (FSt.load1 sc9 rfl (RdS.at (by assumption) (by omega) (by omega))) ?_
      | refine DRW.q rfl rfl (FSt.load1_own sc9 rfl (k := 0) rfl rfl) ?_
      | refine DRW.q rfl rfl (FSt.load1_own sc9 rfl (k := 1) rfl rfl) ?_
      | refine DRW.q rfl rfl (FSt.load1_own sc9 rfl (k := 2) rfl rfl) ?_
    refine DRW.q rfl rfl (fun w' hF => runs_buildF (cells := [_, _]) bz26 rfl rfl rfl rfl rfl) ?_
    refine DRW.q rfl rfl (fun w' hF => runs_buildF (cells := [_, _]) bz26 rfl rfl rfl rfl rfl) ?_
    refine DRW.q rfl rfl (fun w' hF => runs_indexAddrA Tryd.underlying22 ti9 rfl rfl (by omega)) ?_
    first
      | refine DRW.q rfl rfl (FSt.load1 sc9 rfl (RdS.at (by assumption) (by omega) (by omega))) ?_
      | refine DRW.q rfl rfl (FSt.load1_own sc9 rfl (k := 0) rfl rfl) ?_
      | refine DRW.q rfl rfl (FSt.load1_own sc9 rfl (k := 1) rfl rfl) ?_
      | refine DRW.q rfl rfl (FSt.load1_own sc9 rfl (k := 2) rfl rfl) ?_
    refine DRW.opE rfl rfl (runs_litF (xs := [.agg #[_, _], .agg #[_, _], .agg #[_, _]]) Tryd.underlying31 ti26 (by decide) rfl rfl rfl rfl rfl hst (by decide)) ?_
    rintro u4 w ⟨Lv4, hstn, hg4⟩
    clear hst
    have hst := hstn
    clear hstn
    refine ⟨FSt.of hst (Imm.le.refl _) (by first | exact (List.sublist_cons_self _ _).trans (List.sublist_append_right _ _) | exact List.Sublist.refl _ | exact List.sublist_cons_self _ _ | exact List.sublist_append_right _ _ | exact (List.sublist_cons_self _ _).trans (List.sublist_cons_self _ _) | exact (List.sublist_append_right _ _).trans (List.sublist_cons_self _ _) | simp), ?_⟩
    obtain ⟨J4, hJ4, hstn, h4⟩ := Grow.freeze hg4 hst
    clear hst
    have hst := hstn
    clear hstn
    replace hT := hT.mono hJ4
    replace hR := hR.mono hJ4
    replace hle := hle.trans hJ4
    try simp only [List.nil_append] at h4
    replace h4 : RdH J4 u4 (asks x0) := h4
    have hA := h4
    refine DRW.call rfl rfl call7 rfl rfl (tag_spec hst hA (by intro r hr; simp only [asks, List.mem_cons, List.not_mem_nil, or_false] at hr; rcases hr with rfl | rfl | rfl <;> exact Nat.le_of_ble_eq_true rfl) (by rw [asks_get]; show x0.size ≤ _; omega) (by show 3 ≤ _; decide)) ?_
    rintro e w ⟨I5, hI5, rfl, hstn⟩
    clear hst
    have hst := hstn
    clear hstn
    rw [hro.1]
    replace hT := hT.mono hI5
    replace hR := hR.mono hI5
    replace h4 := h4.mono hI5
    replace hA := hA.mono hI5
    replace hle := hle.trans hI5
    refine ⟨_, rfl, FSt.of hst (hJ4.trans hI5) (by first | exact (List.sublist_cons_self _ _).trans (List.sublist_append_right _ _) | exact List.Sublist.refl _ | exact List.sublist_cons_self _ _ | exact List.sublist_append_right _ _ | exact (List.sublist_cons_self _ _).trans (List.sublist_cons_self _ _) | exact (List.sublist_append_right _ _).trans (List.sublist_cons_self _ _) | simp), ?_⟩
    refine DRW.q rfl rfl (fun w' hF => runs_neS rfl rfl) ?_
    refine DRW.done ?_
    refine AQ.next ?_
    refine CW.cond rfl (fun hc => absurd hc (by simp)) (fun hc => ?_)
    refine CW.skip ?_
    refine AQ.block_normal ?_
    refine AQ.next ?_
    -- region 6
    refine CW.region ?_
    refine RW.op1 rfl (runs_add rfl rfl (by omega)) ?_
    refine RW.op1 rfl (runs_move rfl) ?_
    refine RW.done ?_
    exact AQ.again (x := (k, I3)) (k + 1, _) ⟨hle, hT, hR, hst.drop1, by omega⟩ ⟨rfl, rfl, rfl, rfl, trivial⟩ (by dsimp only; omega)
  · have hcb29 := hc29
    try simp only [decide_eq_true_eq, decide_eq_false_iff_not] at hc29
    skip
    refine CW.exit ?_
    refine AQ.past_exit ?_
    refine AQ.past_exit ?_
    refine AQ.block_hit ?_
    refine AQ.next ?_
    refine CW.seq ?_
    -- region 7
    refine CW.region ?_
    refine RW.call rfl call8 rfl rfl (span_spec hst goodT (by decide)) ?_
    rintro e w ⟨rfl, hstn⟩
    clear hst
    have hst := hstn
    clear hstn
    rw [good_ok]
    refine ⟨_, rfl, ?_⟩
    refine RW.op1 rfl (runs_move rfl) ?_
    refine RW.op1 rfl (runs_extract rfl rfl) ?_
    refine RW.op1 rfl (runs_extract rfl rfl) ?_
    refine RW.op1 rfl (runs_extract rfl rfl) ?_
    refine RW.op1 rfl (runs_extract rfl rfl) ?_
    refine RW.op1 rfl (runs_assign rfl) ?_
    refine RW.op1 rfl (runs_assign rfl) ?_
    refine RW.op1 rfl (runs_assign rfl) ?_
    refine RW.op1 rfl (runs_assign rfl) ?_
    refine RW.done ?_
    refine AQ.next ?_
    refine CW.seq ?_
    refine CW.seq ?_
    -- region 8
    refine CW.region ?_
    refine RW.op1 rfl (runs_move rfl) ?_
    refine RW.op1 rfl (runs_not rfl) ?_
    refine RW.op1 rfl (runs_move rfl) ?_
    have hk51 := (show (!true) = false from rfl)
    refine RW.on_guard rfl rfl rfl rfl hk51 ?_
    refine RW.op1 rfl (runs_move rfl) ?_
    refine RW.on_guard rfl rfl rfl rfl hk51 ?_
    refine RW.op1 rfl (runs_neI rfl rfl) ?_
    refine RW.op1 rfl (runs_pick_false rfl hk51 rfl) ?_
    refine RW.op1 rfl (runs_move rfl) ?_
    have hk55 := (show decide ((3 : Int) ≠ 3) = false by decide)
    refine RW.on_guard rfl rfl rfl rfl hk55 ?_
    refine RW.op1 rfl (runs_move rfl) ?_
    refine RW.on_guard rfl rfl rfl rfl hk55 ?_
    refine RW.op1 rfl (runs_neI rfl rfl) ?_
    refine RW.op1 rfl (runs_pick_false rfl hk55 rfl) ?_
    refine RW.op1 rfl (runs_move rfl) ?_
    have hk59 := (show decide ((7 : Int) ≠ 7) = false by decide)
    refine RW.on_guard rfl rfl rfl rfl hk59 ?_
    refine RW.op1 rfl (runs_move rfl) ?_
    refine RW.on_guard rfl rfl rfl rfl hk59 ?_
    refine RW.op1 rfl (runs_neI rfl rfl) ?_
    refine RW.op1 rfl (runs_pick_false rfl hk59 rfl) ?_
    refine RW.done ?_
    refine AQ.next ?_
    refine CW.cond rfl (fun hc => absurd hc (by decide)) (fun hc => ?_)
    refine CW.skip ?_
    refine AQ.next ?_
    refine CW.seq ?_
    -- region 10
    refine CW.region ?_
    refine RW.opE rfl (runs_lit1R Tryd.underlying29 ti9 (by decide) rfl rfl rfl (by simp [Value.oneCell']) hst) ?_
    rintro u7 w ⟨I7, hI7, hstn, h7⟩
    clear hst
    have hst := hstn
    clear hstn
    replace hT := hT.mono hI7
    replace hR := hR.mono hI7
    replace hle := hle.trans hI7
    have hB : RdS _ u7 badT := h7
    refine RW.op1 rfl (runs_assign rfl) ?_
    refine RW.done ?_
    refine AQ.next ?_
    refine CW.seq ?_
    -- region 11
    refine CW.region ?_
    refine RW.op1 rfl (runs_move rfl) ?_
    refine RW.op1 rfl (runs_move rfl) ?_
    refine RW.op1 rfl (runs_move rfl) ?_
    refine RW.op1 rfl (RdL.len Tryd.underlying29 rfl hB) ?_
    refine RW.call rfl call9 rfl rfl (within_spec hst (v := n) (n := 15) hn (by unfold i64ok; decide)) ?_
    rintro e w ⟨rfl, hstn⟩
    clear hst
    have hst := hstn
    clear hstn
    have hw0 := (within_range n 15).1
    have hw1 := (within_range n 15).2 (by decide)
    rw [show (((badT).length : Nat) : Int) = 15 from rfl]
    generalize within n 15 = j at hw0 hw1 ⊢
    refine ⟨_, rfl, ?_⟩
    refine RW.op1 rfl (RdL.indexAddr Tryd.underlying29 ti9 (by decide) rfl rfl hB (by show 0 ≤ j ∧ j < 15; omega)) ?_
    refine RW.op1 rfl (runs_load1 sc9 rfl (hst.cell_imm (RdS.at hB (by omega) (by show j < 15; omega)))) ?_
    have hbo := badT_ok _ (sat_mem (l := badT) hw0 hw1)
    generalize sat badT j = sb at hbo ⊢
    refine RW.call rfl call8 rfl rfl (span_spec hst sb (by omega)) ?_
    rintro e w ⟨rfl, hstn⟩
    clear hst
    have hst := hstn
    clear hstn
    refine ⟨_, rfl, ?_⟩
    refine RW.op1 rfl (runs_move rfl) ?_
    refine RW.op1 rfl (runs_extract rfl rfl) ?_
    refine RW.op1 rfl (runs_extract rfl rfl) ?_
    refine RW.op1 rfl (runs_extract rfl rfl) ?_
    refine RW.op1 rfl (runs_extract rfl rfl) ?_
    refine RW.op1 rfl (runs_assign rfl) ?_
    refine RW.op1 rfl (runs_assign rfl) ?_
    refine RW.op1 rfl (runs_assign rfl) ?_
    refine RW.op1 rfl (runs_assign rfl) ?_
    refine RW.done ?_
    refine AQ.next ?_
    refine CW.seq ?_
    -- region 12
    refine CW.region ?_
    refine RW.call rfl call10 rfl rfl (heads_spec hst hT 12 (by decide) tTag) ?_
    rintro e w ⟨I10, vH, hI10, rfl, hH, hstn⟩
    clear hst
    have hst := hstn
    clear hstn
    rw [tHeads_ok] at hH
    replace hT := hT.mono hI10
    replace hR := hR.mono hI10
    replace h7 := h7.mono hI10
    replace hB := hB.mono hI10
    replace hle := hle.trans hI10
    refine ⟨_, rfl, ?_⟩
    refine RW.op1 rfl (runs_assign rfl) ?_
    refine RW.done ?_
    refine AQ.next ?_
    refine CW.seq ?_
    -- region 13
    refine CW.region ?_
    refine RW.op1 rfl (runs_move rfl) ?_
    refine RW.op1 rfl (runs_not rfl) ?_
    refine RW.op1 rfl (runs_move rfl) ?_
    have hk80 := (show (!(spanR sb).2.2.2) = true by rw [hbo.1]; rfl)
    refine RW.on_guard rfl rfl rfl rfl hk80 ?_
    refine RW.op1 rfl (runs_move rfl) ?_
    refine RW.on_guard rfl rfl rfl rfl hk80 ?_
    refine RW.op1 rfl (runs_buildF (cells := [_, _]) bz26 rfl rfl rfl rfl rfl) ?_
    refine RW.on_guard rfl rfl rfl rfl hk80 ?_
    refine RW.op1 rfl (runs_buildF (cells := [_, _]) bz26 rfl rfl rfl rfl rfl) ?_
    refine RW.on_guard rfl rfl rfl rfl hk80 ?_
    refine RW.opE rfl (runs_litF (xs := [.agg #[_, _], .agg #[_, _]]) Tryd.underlying31 ti26 (by decide) rfl rfl rfl rfl rfl hst (by decide)) ?_
    rintro u11 w ⟨Lv11, hstn, hg11⟩
    clear hst
    have hst := hstn
    clear hstn
    obtain ⟨J11, hJ11, hstn, h11⟩ := Grow.freeze hg11 hst
    clear hst
    have hst := hstn
    clear hstn
    replace hT := hT.mono hJ11
    replace hR := hR.mono hJ11
    replace h7 := h7.mono hJ11
    replace hB := hB.mono hJ11
    replace hH := hH.mono hJ11
    replace hle := hle.trans hJ11
    try simp only [List.nil_append] at h11
    replace h11 : RdH J11 u11 tHeads := h11
    have hG := h11
    refine RW.on_guard rfl rfl rfl rfl hk80 ?_
    refine RW.call rfl call11 rfl rfl (sameH_spec hst hH hG (by decide)) ?_
    rintro e w ⟨rfl, hstn⟩
    clear hst
    have hst := hstn
    clear hstn
    refine ⟨_, rfl, ?_⟩
    refine RW.op1 rfl (runs_pick_true rfl hk80 rfl) ?_
    refine RW.op1 rfl (runs_move rfl) ?_
    have hk87 := (show true = true from rfl)
    refine RW.on_guard rfl rfl rfl rfl hk87 ?_
    refine RW.call rfl call10 rfl rfl (heads_spec hst hT 12 (by decide) ⟨#[]⟩) ?_
    rintro e w ⟨I13, vX, hI13, rfl, hX, hstn⟩
    clear hst
    have hst := hstn
    clear hstn
    rw [noHeads] at hX
    replace hT := hT.mono hI13
    replace hR := hR.mono hI13
    replace h7 := h7.mono hI13
    replace hB := hB.mono hI13
    replace hH := hH.mono hI13
    replace h11 := h11.mono hI13
    replace hG := hG.mono hI13
    replace hle := hle.trans hI13
    refine ⟨_, rfl, ?_⟩
    refine RW.on_guard rfl rfl rfl rfl hk87 ?_
    refine RW.op1 rfl (RdL.len Tryd.underlying31 rfl hX) ?_
    refine RW.on_guard rfl rfl rfl rfl hk87 ?_
    refine RW.op1 rfl (runs_eqI rfl rfl) ?_
    refine RW.op1 rfl (runs_pick_true rfl hk87 rfl) ?_
    refine RW.op1 rfl (runs_move rfl) ?_
    have hk92 := (show decide (((([] : List HRow).length : Nat) : Int) = 0) = true by decide)
    refine RW.on_guard rfl rfl rfl rfl hk92 ?_
    refine RW.call rfl call10 rfl rfl (heads_spec hst hT (-1) (by decide) tTag) ?_
    rintro e w ⟨I14, vY, hI14, rfl, hY, hstn⟩
    clear hst
    have hst := hstn
    clear hstn
    rw [negHeads] at hY
    replace hT := hT.mono hI14
    replace hR := hR.mono hI14
    replace h7 := h7.mono hI14
    replace hB := hB.mono hI14
    replace hH := hH.mono hI14
    replace h11 := h11.mono hI14
    replace hG := hG.mono hI14
    replace hle := hle.trans hI14
    refine ⟨_, rfl, ?_⟩
    refine RW.on_guard rfl rfl rfl rfl hk92 ?_
    refine RW.op1 rfl (RdL.len Tryd.underlying31 rfl hY) ?_
    refine RW.on_guard rfl rfl rfl rfl hk92 ?_
    refine RW.op1 rfl (runs_eqI rfl rfl) ?_
    refine RW.op1 rfl (runs_pick_true rfl hk92 rfl) ?_
    refine RW.op1 rfl (runs_move rfl) ?_
    have hk97 := (show decide (((([] : List HRow).length : Nat) : Int) = 0) = true by decide)
    refine RW.on_guard rfl rfl rfl rfl hk97 ?_
    refine RW.call rfl call7 rfl rfl (tag_spec hst (hs := []) (RdL.nil 2) (by simp) (by decide) (by decide)) ?_
    rintro e w ⟨I15, hI15, rfl, hstn⟩
    clear hst
    have hst := hstn
    clear hstn
    rw [nilTag]
    replace hT := hT.mono hI15
    replace hR := hR.mono hI15
    replace h7 := h7.mono hI15
    replace hB := hB.mono hI15
    replace hH := hH.mono hI15
    replace h11 := h11.mono hI15
    replace hG := hG.mono hI15
    replace hle := hle.trans hI15
    refine ⟨_, rfl, ?_⟩
    refine RW.on_guard rfl rfl rfl rfl hk97 ?_
    refine RW.op1 rfl (runs_eqS rfl rfl) ?_
    refine RW.op1 rfl (runs_pick_true rfl hk97 rfl) ?_
    refine RW.op1 rfl (runs_move rfl) ?_
    have hk101 := (show ((ByteArray.mk #[]).toList == (ByteArray.mk #[]).toList) = true by simp)
    refine RW.on_guard rfl rfl rfl rfl hk101 ?_
    refine RW.call rfl call12 rfl rfl (wakes15_spec hst hT) ?_
    rintro e w ⟨rfl, I16, hI16, hstn⟩
    clear hst
    have hst := hstn
    clear hstn
    replace hT := hT.mono hI16
    replace hR := hR.mono hI16
    replace h7 := h7.mono hI16
    replace hB := hB.mono hI16
    replace hH := hH.mono hI16
    replace h11 := h11.mono hI16
    replace hG := hG.mono hI16
    replace hle := hle.trans hI16
    refine ⟨_, rfl, ?_⟩
    refine RW.op1 rfl (runs_pick_true rfl hk101 rfl) ?_
    refine RW.op1 rfl (runs_assign rfl) ?_
    refine RW.done ?_
    refine AQ.next ?_
    refine CW.ret ?_
    refine AQ.ret1 rfl rfl ?_
    exact ⟨rfl, _, hle, hst⟩
end Go.Proofs.YtjlkidokkaibiaaDoorX
