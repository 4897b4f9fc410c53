/- A few texts by hand: the walk. -/
import Derived.Test.YthblbockghgchaaT
import Derived.Test.YthblbockghgchaaQ7
import Derived.Test.YthblbockghgchaaXG
namespace Go.Proofs.YthblbockghgchaaX
set_option linter.unusedVariables false
set_option linter.unusedSimpArgs false
open Go Go.RowKit Go.Proofs

def rowsE : List (List UInt8 × List UInt8) := [([], []), ([97, 98, 99], [97, 98, 99]), ([97, 32, 98], [97, 37, 50, 48, 98]), ([195, 169], [37, 67, 51, 37, 65, 57]), ([226, 130, 172], [37, 69, 50, 37, 56, 50, 37, 65, 67]), ([255], [37, 69, 70, 37, 66, 70, 37, 66, 68]), ([37, 52, 49], [37, 52, 49]), ([34, 60, 62, 35, 63, 123, 125], [37, 50, 50, 37, 51, 67, 37, 51, 69, 37, 50, 51, 37, 51, 70, 37, 55, 66, 37, 55, 68]), ([97, 47, 98, 58, 99, 64, 100, 33, 36, 38, 39, 40, 41, 42, 43, 44, 59, 61, 45, 46, 95, 126, 124, 94, 91, 93, 92], [97, 47, 98, 58, 99, 64, 100, 33, 36, 38, 39, 40, 41, 42, 43, 44, 59, 61, 45, 46, 95, 126, 124, 94, 91, 93, 92]), ([0, 31, 127], [37, 48, 48, 37, 49, 70, 37, 55, 70]), ([96], [37, 54, 48]), ([240, 159, 152, 128], [37, 70, 48, 37, 57, 70, 37, 57, 56, 37, 56, 48])]
def rowsD : List (List UInt8 × List UInt8) := [([37, 52, 49, 37, 54, 97, 37, 54, 65], [65, 106, 106]), ([97, 43, 98], [97, 43, 98]), ([37, 99, 51, 37, 65, 57], [195, 169])]
def badD : List ByteArray := [⟨#[37]⟩, ⟨#[37, 52]⟩, ⟨#[97, 37]⟩, ⟨#[37, 52, 103]⟩, ⟨#[37, 103, 52]⟩, ⟨#[37, 37, 52, 49]⟩, ⟨#[97, 98, 37, 50]⟩]
def prow (r : List UInt8 × List UInt8) : List Value := [.string (strOf r.1), .string (strOf r.2)]
theorem prow_len (r : List UInt8 × List UInt8) : (prow r).length = 2 := rfl
theorem rowsE_ok : ∀ r ∈ rowsE, encB r.1 = r.2 ∧ r.1.length ≤ 100 := by decide +kernel
theorem rowsD_ok : ∀ r ∈ rowsD, decB r.1 = some r.2 ∧ r.1.length ≤ 100 := by decide +kernel
theorem badD_ok : ∀ s ∈ badD, decB s.toList = none ∧ s.size ≤ 100 := by
  simp only [ByteArray.toList_eq]
  decide +kernel
def lowF : List UInt8 := [65, 98, 90, 91, 64, 195, 169, 49]
def lowT : List UInt8 := [97, 98, 122, 91, 64, 195, 169, 49]
def trimF : List UInt8 := [32, 9, 10, 32, 97, 32, 98, 32, 0, 32]
theorem low_hand : lower lowF = lowT := by decide
theorem trim_hand : trimB trimF = [97, 32, 98] := by decide +kernel
theorem trim_hand2 : trimB [32, 32] = [] := by decide +kernel
set_option maxRecDepth 100000 in
set_option maxHeartbeats 1000000 in
theorem pforms_spec {w0 w : World} {I : Imm} {L : Own} (hst : St w0 w I L) (n : Int) (hn : i64ok n) :
    Calls Try.prog 5 #[.int .i64 n] w fun e w' => e = .returned (.bool true) ∧ ∃ I', I.le I' ∧ St w0 w' I' L := by
  refine enter Try.func5 rfl (N := 94) rfl rfl ?_
  simp only [List.zipIdx_cons, List.zipIdx_nil, List.map_cons, List.map_nil, Nat.zero_add, Nat.reduceAdd]
  have hle := Imm.le.refl I
  refine CW.seq ?_
  -- region 0
  refine CW.region ?_
  refine RW.op1 rfl (runs_assign rfl) ?_
  refine RW.done ?_
  refine AQ.next ?_
  refine CW.seq ?_
  refine CW.seq ?_
  -- region 1
  refine CW.region ?_
  refine RW.op1 rfl (runs_buildA (zc := [(.string .empty), (.string .empty)]) (size := 1) (cells := [_, _]) (by unfold BA; kernel_rfl) rfl rfl rfl rfl rfl) ?_
  refine RW.op1 rfl (runs_buildA (zc := [(.string .empty), (.string .empty)]) (size := 1) (cells := [_, _]) (by unfold BA; kernel_rfl) rfl rfl rfl rfl rfl) ?_
  refine RW.op1 rfl (runs_buildA (zc := [(.string .empty), (.string .empty)]) (size := 1) (cells := [_, _]) (by unfold BA; kernel_rfl) rfl rfl rfl rfl rfl) ?_
  refine RW.op1 rfl (runs_buildA (zc := [(.string .empty), (.string .empty)]) (size := 1) (cells := [_, _]) (by unfold BA; kernel_rfl) rfl rfl rfl rfl rfl) ?_
  refine RW.op1 rfl (runs_buildA (zc := [(.string .empty), (.string .empty)]) (size := 1) (cells := [_, _]) (by unfold BA; kernel_rfl) rfl rfl rfl rfl rfl) ?_
  refine RW.op1 rfl (runs_buildA (zc := [(.string .empty), (.string .empty)]) (size := 1) (cells := [_, _]) (by unfold BA; kernel_rfl) rfl rfl rfl rfl rfl) ?_
  refine RW.op1 rfl (runs_buildA (zc := [(.string .empty), (.string .empty)]) (size := 1) (cells := [_, _]) (by unfold BA; kernel_rfl) rfl rfl rfl rfl rfl) ?_
  refine RW.op1 rfl (runs_buildA (zc := [(.string .empty), (.string .empty)]) (size := 1) (cells := [_, _]) (by unfold BA; kernel_rfl) rfl rfl rfl rfl rfl) ?_
  refine RW.op1 rfl (runs_buildA (zc := [(.string .empty), (.string .empty)]) (size := 1) (cells := [_, _]) (by unfold BA; kernel_rfl) rfl rfl rfl rfl rfl) ?_
  refine RW.op1 rfl (runs_buildA (zc := [(.string .empty), (.string .empty)]) (size := 1) (cells := [_, _]) (by unfold BA; kernel_rfl) rfl rfl rfl rfl rfl) ?_
  refine RW.op1 rfl (runs_buildA (zc := [(.string .empty), (.string .empty)]) (size := 1) (cells := [_, _]) (by unfold BA; kernel_rfl) rfl rfl rfl rfl rfl) ?_
  refine RW.op1 rfl (runs_buildA (zc := [(.string .empty), (.string .empty)]) (size := 1) (cells := [_, _]) (by unfold BA; kernel_rfl) rfl rfl rfl rfl rfl) ?_
  refine RW.opE rfl (runs_litF (xs := [.agg #[_, _], .agg #[_, _], .agg #[_, _], .agg #[_, _], .agg #[_, _], .agg #[_, _], .agg #[_, _], .agg #[_, _], .agg #[_, _], .agg #[_, _], .agg #[_, _], .agg #[_, _]]) Try.underlying31 ti30 (by decide) rfl rfl rfl rfl rfl hst (by decide)) ?_
  rintro u1 w ⟨Lv1, hstn, hg1⟩
  clear hst
  have hst := hstn
  clear hstn
  obtain ⟨J1, hJ1, hstn, h1⟩ := Grow.freeze hg1 hst
  clear hst
  have hst := hstn
  clear hstn
  replace hle := hle.trans hJ1
  try simp only [List.nil_append] at h1
  obtain ⟨vE, hvvE⟩ : ∃ v, v = u1 := ⟨_, rfl⟩
  replace h1 : RdL _ 2 u1 rowsE.length (rowsE.flatMap prow) := h1
  rw [← hvvE] at h1 ⊢
  have hvE := h1
  refine RW.op1 rfl (RdL.len Try.underlying31 rfl hvE) ?_
  refine RW.op1 rfl (runs_move rfl) ?_
  refine RW.done ?_
  refine AQ.next ?_
  refine CW.block ?_
  -- loop 1
  refine CW.loop (Nat × Imm) (fun x w => I.le x.2 ∧ St w0 w x.2 L ∧ RdL x.2 2 vE rowsE.length (rowsE.flatMap prow) ∧ x.1 ≤ 12) (fun x => [(0, .int .i64 n), (24, vE), (25, .int .i64 (12 : Nat)), (26, .int .i64 (x.1 : Int))]) (fun x => 12 - x.1) ⟨(0, _), ⟨hle, hst, hvE, Nat.zero_le _⟩, ⟨rfl, rfl, rfl, rfl, trivial⟩⟩ ?_
  clear hvE hle
  rintro ⟨j, I8⟩ w ⟨hle, hstn, hvE, hj⟩
  dsimp only at hle hstn hvE hj ⊢
  clear hst
  have hst := hstn
  clear hstn
  refine CW.seq ?_
  -- region 2
  refine CW.region ?_
  refine RW.op1 rfl (runs_lss rfl rfl) ?_
  refine RW.done ?_
  refine AQ.next ?_
  refine CW.seq ?_
  refine CW.cond rfl (fun hc27 => ?_) (fun hc27 => ?_)
  · have hcb27 := hc27
    try simp only [decide_eq_true_eq, decide_eq_false_iff_not] at hc27
    have hj1 : j < rowsE.length := by show j < 12; omega
    obtain ⟨r, hr⟩ : ∃ r, rowsE[j] = r := ⟨_, rfl⟩
    have hrm : r ∈ rowsE := by rw [← hr]; exact List.getElem_mem _
    obtain ⟨hro, hrs⟩ := rowsE_ok r hrm
    obtain ⟨ra, rb⟩ := r
    dsimp only at hro hrs
    have hza := strOf_size ra
    have hra : ∀ (i : Nat) (u : Value), (prow (ra, rb))[i]? = some u → (rowsE.flatMap prow)[(j : Int).toNat * 2 + i]? = some u := by
      intro i u hi
      have h2 : i < 2 := (List.getElem?_eq_some_iff.1 hi).1
      rw [Int.toNat_natCast, getElem?_flat prow_len rowsE j i h2, List.getElem?_eq_getElem hj1, hr]
      exact hi
    refine CW.skip ?_
    refine AQ.next ?_
    refine CW.seq ?_
    refine CW.block ?_
    refine CW.seq ?_
    -- region 3
    refine CW.region ?_
    refine RW.op1 rfl (RdL.indexAddr Try.underlying31 ti30 (by decide) rfl rfl hvE (by show 0 ≤ (j : Int) ∧ (j : Int) < 12; omega)) ?_
    refine RW.op1 rfl (RdL.loadRow (row := prow (ra, rb)) ag30 ti30 rfl hvE hst rfl hra) ?_
    refine RW.opE rfl (runs_alloc ti30 hst) ?_
    rintro _ w ⟨b2, rfl, hstn⟩
    clear hst
    have hst := hstn
    clear hstn
    first
      | refine RW.opE0 (runs_storeW ti30 rfl rfl hst (k := 0) rfl rfl rfl (NoFz.zero _) rfl) ?_
      | refine RW.opE0 (runs_storeP ti30 rfl rfl hst (k := 0) rfl rfl rfl (NoFz.zero _) rfl) ?_
      | refine RW.opE0 (runs_storeW ti30 rfl rfl hst (k := 1) rfl rfl rfl (NoFz.zero _) rfl) ?_
      | refine RW.opE0 (runs_storeP ti30 rfl rfl hst (k := 1) rfl rfl rfl (NoFz.zero _) rfl) ?_
      | refine RW.opE0 (runs_storeW ti30 rfl rfl hst (k := 2) rfl rfl rfl (NoFz.zero _) rfl) ?_
      | refine RW.opE0 (runs_storeP ti30 rfl rfl hst (k := 2) rfl rfl rfl (NoFz.zero _) rfl) ?_
    rintro w hstn
    clear hst
    have hst := hstn
    clear hstn
    try simp only [List.set_cons_zero, List.set_cons_succ] at hst
    refine RW.done ?_
    refine AQ.next ?_
    refine CW.seq ?_
    -- region 4
    refine CW.drawSt hst (.q 0 (.q 1 (.q 3 (.q 4 (.l 2 (.q 5 .nil)))))) follows (by kernel_rfl) (fun w hst => ?_)
    refine DRW.q rfl rfl (fun w' hF => runs_indexAddrA Try.underlying30 ti9 rfl rfl (by omega)) ?_
    refine DRW.q rfl rfl (FSt.load1_own (v := .string (strOf ra)) sc9 rfl (k := 0) rfl rfl) ?_
    refine DRW.q rfl rfl (fun w' hF => runs_indexAddrA Try.underlying30 ti9 rfl rfl (by omega)) ?_
    refine DRW.q rfl rfl (FSt.load1_own (v := .string (strOf rb)) sc9 rfl (k := 0) rfl rfl) ?_
    refine DRW.call rfl rfl call8 rfl rfl (encode_spec hst (strOf ra) (by omega)) ?_
    rintro e w ⟨I4, hI4, rfl, hstn⟩
    clear hst
    have hst := hstn
    clear hstn
    rw [strOf_toList, hro]
    replace hvE := hvE.mono hI4
    replace hle := hle.trans hI4
    refine ⟨_, rfl, FSt.of hst hI4 (by first | exact (List.sublist_cons_self _ _).trans (List.sublist_append_right _ _) | exact List.Sublist.refl _ | exact List.sublist_cons_self _ _ | exact List.sublist_append_right _ _ | exact (List.sublist_cons_self _ _).trans (List.sublist_cons_self _ _) | exact (List.sublist_append_right _ _).trans (List.sublist_cons_self _ _) | simp), ?_⟩
    refine DRW.q rfl rfl (fun w' hF => runs_neS rfl rfl) ?_
    refine DRW.done ?_
    refine AQ.next ?_
    refine CW.cond rfl (fun hc => absurd hc (by rw [beq_self_list]; decide)) (fun hc => ?_)
    refine CW.skip ?_
    refine AQ.block_normal ?_
    refine AQ.next ?_
    -- region 6
    refine CW.region ?_
    refine RW.op1 rfl (runs_add rfl rfl (by omega)) ?_
    refine RW.op1 rfl (runs_move rfl) ?_
    refine RW.done ?_
    exact AQ.again (x := (j, I8)) (j + 1, _) ⟨hle, hst.drop1, hvE, by omega⟩ ⟨rfl, rfl, rfl, rfl, trivial⟩ (by dsimp only; omega)
  · have hcb27 := hc27
    try simp only [decide_eq_true_eq, decide_eq_false_iff_not] at hc27
    skip
    refine CW.exit ?_
    refine AQ.past_exit ?_
    refine AQ.past_exit ?_
    refine AQ.block_hit ?_
    refine AQ.next ?_
    refine CW.seq ?_
    refine CW.seq ?_
    -- region 7
    refine CW.region ?_
    refine RW.op1 rfl (runs_buildA (zc := [(.string .empty), (.string .empty)]) (size := 1) (cells := [_, _]) (by unfold BA; kernel_rfl) rfl rfl rfl rfl rfl) ?_
    refine RW.op1 rfl (runs_buildA (zc := [(.string .empty), (.string .empty)]) (size := 1) (cells := [_, _]) (by unfold BA; kernel_rfl) rfl rfl rfl rfl rfl) ?_
    refine RW.op1 rfl (runs_buildA (zc := [(.string .empty), (.string .empty)]) (size := 1) (cells := [_, _]) (by unfold BA; kernel_rfl) rfl rfl rfl rfl rfl) ?_
    refine RW.opE rfl (runs_litF (xs := [.agg #[_, _], .agg #[_, _], .agg #[_, _]]) Try.underlying31 ti30 (by decide) rfl rfl rfl rfl rfl hst (by decide)) ?_
    rintro u5 w ⟨Lv5, hstn, hg5⟩
    clear hst
    have hst := hstn
    clear hstn
    obtain ⟨J5, hJ5, hstn, h5⟩ := Grow.freeze hg5 hst
    clear hst
    have hst := hstn
    clear hstn
    replace hvE := hvE.mono hJ5
    replace hle := hle.trans hJ5
    try simp only [List.nil_append] at h5
    obtain ⟨vD, hvvD⟩ : ∃ v, v = u5 := ⟨_, rfl⟩
    replace h5 : RdL _ 2 u5 rowsD.length (rowsD.flatMap prow) := h5
    rw [← hvvD] at h5 ⊢
    have hvD := h5
    refine RW.op1 rfl (RdL.len Try.underlying31 rfl hvD) ?_
    refine RW.op1 rfl (runs_move rfl) ?_
    refine RW.done ?_
    refine AQ.next ?_
    refine CW.block ?_
    -- loop 2
    refine CW.loop (Nat × Imm) (fun x w => I.le x.2 ∧ St w0 w x.2 L ∧ RdL x.2 2 vD rowsD.length (rowsD.flatMap prow) ∧ x.1 ≤ 3) (fun x => [(0, .int .i64 n), (40, vD), (41, .int .i64 (3 : Nat)), (42, .int .i64 (x.1 : Int))]) (fun x => 3 - x.1) ⟨(0, _), ⟨hle, hst, hvD, Nat.zero_le _⟩, ⟨rfl, rfl, rfl, rfl, trivial⟩⟩ ?_
    clear hvD hle
    rintro ⟨j, I8⟩ w ⟨hle, hstn, hvD, hj⟩
    dsimp only at hle hstn hvD hj ⊢
    clear hst
    have hst := hstn
    clear hstn
    refine CW.seq ?_
    -- region 8
    refine CW.region ?_
    refine RW.op1 rfl (runs_lss rfl rfl) ?_
    refine RW.done ?_
    refine AQ.next ?_
    refine CW.seq ?_
    refine CW.cond rfl (fun hc43 => ?_) (fun hc43 => ?_)
    · have hcb43 := hc43
      try simp only [decide_eq_true_eq, decide_eq_false_iff_not] at hc43
      have hj1 : j < rowsD.length := by show j < 3; omega
      obtain ⟨r, hr⟩ : ∃ r, rowsD[j] = r := ⟨_, rfl⟩
      have hrm : r ∈ rowsD := by rw [← hr]; exact List.getElem_mem _
      obtain ⟨hro, hrs⟩ := rowsD_ok r hrm
      obtain ⟨ra, rb⟩ := r
      dsimp only at hro hrs
      have hza := strOf_size ra
      have hra : ∀ (i : Nat) (u : Value), (prow (ra, rb))[i]? = some u → (rowsD.flatMap prow)[(j : Int).toNat * 2 + i]? = some u := by
        intro i u hi
        have h2 : i < 2 := (List.getElem?_eq_some_iff.1 hi).1
        rw [Int.toNat_natCast, getElem?_flat prow_len rowsD j i h2, List.getElem?_eq_getElem hj1, hr]
        exact hi
      refine CW.skip ?_
      refine AQ.next ?_
      refine CW.seq ?_
      refine CW.block ?_
      refine CW.seq ?_
      -- region 9
      refine CW.region ?_
      refine RW.op1 rfl (RdL.indexAddr Try.underlying31 ti30 (by decide) rfl rfl hvD (by show 0 ≤ (j : Int) ∧ (j : Int) < 3; omega)) ?_
      refine RW.op1 rfl (RdL.loadRow (row := prow (ra, rb)) ag30 ti30 rfl hvD hst rfl hra) ?_
      refine RW.opE rfl (runs_alloc ti30 hst) ?_
      rintro _ w ⟨b6, rfl, hstn⟩
      clear hst
      have hst := hstn
      clear hstn
      first
        | refine RW.opE0 (runs_storeW ti30 rfl rfl hst (k := 0) rfl rfl rfl (NoFz.zero _) rfl) ?_
        | refine RW.opE0 (runs_storeP ti30 rfl rfl hst (k := 0) rfl rfl rfl (NoFz.zero _) rfl) ?_
        | refine RW.opE0 (runs_storeW ti30 rfl rfl hst (k := 1) rfl rfl rfl (NoFz.zero _) rfl) ?_
        | refine RW.opE0 (runs_storeP ti30 rfl rfl hst (k := 1) rfl rfl rfl (NoFz.zero _) rfl) ?_
        | refine RW.opE0 (runs_storeW ti30 rfl rfl hst (k := 2) rfl rfl rfl (NoFz.zero _) rfl) ?_
        | refine RW.opE0 (runs_storeP ti30 rfl rfl hst (k := 2) rfl rfl rfl (NoFz.zero _) rfl) ?_
      rintro w hstn
      clear hst
      have hst := hstn
      clear hstn
      try simp only [List.set_cons_zero, List.set_cons_succ] at hst
      refine RW.done ?_
      refine AQ.next ?_
      refine CW.seq ?_
      -- region 10
      refine CW.region ?_
      refine RW.op1 rfl (runs_indexAddrA Try.underlying30 ti9 rfl rfl (by omega)) ?_
      refine RW.op1 rfl (runs_load1 sc9 rfl (hst.cell_own (v := .string (strOf ra)) (k := 0) rfl rfl)) ?_
      refine RW.call rfl call11 rfl rfl (decode_spec hst (strOf ra) (by omega)) ?_
      rintro e w ⟨I8, hI8, rfl, hstn⟩
      clear hst
      have hst := hstn
      clear hstn
      rw [strOf_toList, hro]
      dsimp only [Option.getD, Option.isSome]
      replace hvD := hvD.mono hI8
      replace hle := hle.trans hI8
      refine ⟨_, rfl, ?_⟩
      refine RW.op1 rfl (runs_move rfl) ?_
      refine RW.op1 rfl (runs_extract rfl rfl) ?_
      refine RW.op1 rfl (runs_extract rfl rfl) ?_
      refine RW.op1 rfl (runs_assign rfl) ?_
      refine RW.op1 rfl (runs_assign rfl) ?_
      refine RW.done ?_
      refine AQ.next ?_
      refine CW.seq ?_
      -- region 11
      refine CW.region ?_
      refine RW.op1 rfl (runs_move rfl) ?_
      refine RW.op1 rfl (runs_not rfl) ?_
      refine RW.op1 rfl (runs_move rfl) ?_
      have hk54 := (show (!true) = false from rfl)
      refine RW.on_guard rfl rfl rfl rfl hk54 ?_
      refine RW.op1 rfl (runs_move rfl) ?_
      refine RW.on_guard rfl rfl rfl rfl hk54 ?_
      refine RW.op1 rfl (runs_indexAddrA Try.underlying30 ti9 rfl rfl (by omega)) ?_
      refine RW.on_guard rfl rfl rfl rfl hk54 ?_
      refine RW.op1 rfl (runs_load1 sc9 rfl (hst.cell_own (v := .string (strOf rb)) (k := 0) rfl rfl)) ?_
      refine RW.on_guard rfl rfl rfl rfl hk54 ?_
      refine RW.op1 rfl (runs_neS rfl rfl) ?_
      refine RW.op1 rfl (runs_pick_false rfl hk54 rfl) ?_
      refine RW.done ?_
      refine AQ.next ?_
      refine CW.cond rfl (fun hc => absurd hc (by rw [beq_self_list]; decide)) (fun hc => ?_)
      refine CW.skip ?_
      refine AQ.block_normal ?_
      refine AQ.next ?_
      -- region 13
      refine CW.region ?_
      refine RW.op1 rfl (runs_add rfl rfl (by omega)) ?_
      refine RW.op1 rfl (runs_move rfl) ?_
      refine RW.done ?_
      exact AQ.again (x := (j, I8)) (j + 1, _) ⟨hle, hst.drop1, hvD, by omega⟩ ⟨rfl, rfl, rfl, rfl, trivial⟩ (by dsimp only; omega)
    · have hcb43 := hc43
      try simp only [decide_eq_true_eq, decide_eq_false_iff_not] at hc43
      skip
      refine CW.exit ?_
      refine AQ.past_exit ?_
      refine AQ.past_exit ?_
      refine AQ.block_hit ?_
      refine AQ.next ?_
      refine CW.seq ?_
      -- region 14
      refine CW.region ?_
      refine RW.opE rfl (runs_lit1R Try.underlying32 ti9 (by decide) rfl rfl rfl (by simp [Value.oneCell']) hst) ?_
      rintro u9 w ⟨I9, hI9, hstn, h9⟩
      clear hst
      have hst := hstn
      clear hstn
      replace hvD := hvD.mono hI9
      replace hle := hle.trans hI9
      have hB : RdS _ u9 badD := h9
      refine RW.op1 rfl (runs_assign rfl) ?_
      refine RW.done ?_
      refine AQ.next ?_
      refine CW.seq ?_
      -- region 15
      refine CW.region ?_
      refine RW.op1 rfl (runs_move rfl) ?_
      refine RW.op1 rfl (runs_move rfl) ?_
      refine RW.op1 rfl (runs_move rfl) ?_
      refine RW.op1 rfl (RdL.len Try.underlying32 rfl hB) ?_
      refine RW.call rfl call12 rfl rfl (within_spec hst (v := n) (n := 7) hn (by unfold i64ok; decide)) ?_
      rintro e w ⟨rfl, hstn⟩
      clear hst
      have hst := hstn
      clear hstn
      have hw := within_range n 7
      generalize hx : within n 7 = c at *
      refine ⟨_, rfl, ?_⟩
      refine RW.op1 rfl (RdL.indexAddr Try.underlying32 ti9 (by decide) rfl rfl hB (by show 0 ≤ c ∧ c < 7; omega)) ?_
      refine RW.op1 rfl (runs_load1 sc9 rfl (hst.cell_imm (RdS.at hB (by omega) (by show c < 7; omega)))) ?_
      have hbm : sat badD c ∈ badD := by
        have hc7 : c.toNat < badD.length := by show c.toNat < 7; omega
        have := sat_get hc7
        rw [show ((c.toNat : Nat) : Int) = c by omega] at this
        rw [this]; exact List.getElem_mem _
      obtain ⟨hbn, hbs⟩ := badD_ok _ hbm
      generalize sat badD c = sb at hbn hbs ⊢
      refine RW.call rfl call11 rfl rfl (decode_spec hst sb (by omega)) ?_
      rintro e w ⟨I11, hI11, rfl, hstn⟩
      clear hst
      have hst := hstn
      clear hstn
      rw [hbn]
      dsimp only [Option.getD, Option.isSome]
      replace hvD := hvD.mono hI11
      replace h9 := h9.mono hI11
      replace hB := hB.mono hI11
      replace hle := hle.trans hI11
      refine ⟨_, rfl, ?_⟩
      refine RW.op1 rfl (runs_move rfl) ?_
      refine RW.op1 rfl (runs_extract rfl rfl) ?_
      refine RW.op1 rfl (runs_extract rfl rfl) ?_
      refine RW.op1 rfl (runs_assign rfl) ?_
      refine RW.op1 rfl (runs_assign rfl) ?_
      refine RW.done ?_
      refine AQ.next ?_
      refine CW.seq ?_
      -- region 16
      refine CW.region ?_
      refine RW.op1 rfl (runs_move rfl) ?_
      refine RW.op1 rfl (runs_not rfl) ?_
      refine RW.op1 rfl (runs_move rfl) ?_
      have hk75 := (show (!false) = true from rfl)
      refine RW.on_guard rfl rfl rfl rfl hk75 ?_
      refine RW.op1 rfl (runs_move rfl) ?_
      refine RW.on_guard rfl rfl rfl rfl hk75 ?_
      refine RW.op1 rfl (runs_eqS rfl rfl) ?_
      refine RW.op1 rfl (runs_pick_true rfl hk75 rfl) ?_
      refine RW.op1 rfl (runs_move rfl) ?_
      have hk79 := (show ((strOf []).toList == (⟨#[]⟩ : ByteArray).toList) = true from beq_self_list _)
      refine RW.on_guard rfl rfl rfl rfl hk79 ?_
      refine RW.call rfl call9 rfl rfl (lower_spec hst (strOf lowF) (by rw [strOf_size]; decide)) ?_
      rintro e w ⟨I12, hI12, rfl, hstn⟩
      clear hst
      have hst := hstn
      clear hstn
      rw [strOf_toList, low_hand]
      replace hvD := hvD.mono hI12
      replace h9 := h9.mono hI12
      replace hB := hB.mono hI12
      replace hle := hle.trans hI12
      refine ⟨_, rfl, ?_⟩
      refine RW.on_guard rfl rfl rfl rfl hk79 ?_
      refine RW.op1 rfl (runs_eqS rfl rfl) ?_
      refine RW.op1 rfl (runs_pick_true rfl hk79 rfl) ?_
      refine RW.op1 rfl (runs_move rfl) ?_
      have hk83 := (show ((strOf lowT).toList == (strOf lowT).toList) = true from beq_self_list _)
      refine RW.on_guard rfl rfl rfl rfl hk83 ?_
      refine RW.call rfl call13 rfl rfl (trim_spec hst (strOf trimF) (by rw [strOf_size]; decide)) ?_
      rintro e w ⟨rfl, hstn⟩
      clear hst
      have hst := hstn
      clear hstn
      rw [strOf_toList, trim_hand]
      refine ⟨_, rfl, ?_⟩
      refine RW.on_guard rfl rfl rfl rfl hk83 ?_
      refine RW.op1 rfl (runs_eqS rfl rfl) ?_
      refine RW.op1 rfl (runs_pick_true rfl hk83 rfl) ?_
      refine RW.op1 rfl (runs_move rfl) ?_
      have hk87 := (show ((strOf [97, 32, 98]).toList == (strOf [97, 32, 98]).toList) = true from beq_self_list _)
      refine RW.on_guard rfl rfl rfl rfl hk87 ?_
      refine RW.call rfl call13 rfl rfl (trim_spec hst (strOf [32, 32]) (by rw [strOf_size]; decide)) ?_
      rintro e w ⟨rfl, hstn⟩
      clear hst
      have hst := hstn
      clear hstn
      rw [strOf_toList, trim_hand2]
      refine ⟨_, rfl, ?_⟩
      refine RW.on_guard rfl rfl rfl rfl hk87 ?_
      refine RW.op1 rfl (runs_eqS rfl rfl) ?_
      refine RW.op1 rfl (runs_pick_true rfl hk87 rfl) ?_
      refine RW.op1 rfl (runs_move rfl) ?_
      have hk91 := (show ((strOf []).toList == (strOf []).toList) = true from beq_self_list _)
      refine RW.on_guard rfl rfl rfl rfl hk91 ?_
      refine RW.call rfl call10 rfl rfl (wakes06_spec hst) ?_
      rintro e w ⟨I15, hI15, rfl, hstn⟩
      clear hst
      have hst := hstn
      clear hstn
      replace hvD := hvD.mono hI15
      replace h9 := h9.mono hI15
      replace hB := hB.mono hI15
      replace hle := hle.trans hI15
      refine ⟨_, rfl, ?_⟩
      refine RW.op1 rfl (runs_pick_true rfl hk91 rfl) ?_
      refine RW.op1 rfl (runs_assign rfl) ?_
      refine RW.done ?_
      refine AQ.next ?_
      refine CW.ret ?_
      refine AQ.ret1 rfl rfl ?_
      exact ⟨rfl, _, hle, hst⟩
end Go.Proofs.YthblbockghgchaaX
