/- Answers by hand; texts that are none. -/
import Derived.Test.YtfjghkmapccjhaaDoorT
import Derived.Test.YtfjghkmapccjhaaDoorK9
namespace Go.Proofs.YtfjghkmapccjhaaDoorX
set_option linter.unusedVariables false
set_option linter.unusedSimpArgs false
open Go Go.RowKit Go.Proofs

theorem RdL.cellAdd {I : Imm} {size n : Nat} {v : Value} {xs : List Value} (h : RdL I size v n xs) {k j : Nat} {u : Value} (hk : xs[k + j]? = some u) : I.cell? ((slPtr v k).add j) = some u := by
  have h1 := RdL.cell h hk
  obtain ⟨_, _, A, cap, rfl, _, h4⟩ := h
  obtain ⟨a, rfl, _⟩ := h4 (k + j) u hk
  simp only [slPtr] at h1 ⊢
  rw [Addr.add_add]
  exact h1
theorem dd404 : Lib.decDigits 404 = [52, 48, 52] := dd3 4 0 4 (by decide) (by decide) (by decide) (by decide)
def fA : List UInt8 := [72, 84, 84, 80, 47, 49, 46, 49, 32, 52, 48, 52, 32, 78, 111, 116, 32, 116, 104, 101, 114, 101, 32, 97, 116, 32, 97, 108, 108, 13, 10, 65, 45, 98, 58, 32, 32, 120, 32, 121, 32, 32, 13, 10, 67, 111, 110, 116, 101, 110, 116, 45, 76, 69, 78, 71, 84, 72, 58, 51, 13, 10, 13, 10, 104, 101, 108, 108, 111]
def fB : List UInt8 := [72, 84, 84, 80, 47, 49, 46, 49, 32, 49, 48, 48, 32, 13, 10, 99, 111, 110, 116, 101, 110, 116, 45, 108, 101, 110, 103, 116, 104, 58, 32, 48, 48, 48, 48, 48, 57, 13, 10, 120, 58, 13, 10, 13, 10, 97, 98]
def fP : List UInt8 := [72, 84, 84, 80, 47, 49, 46, 49, 32, 52, 48, 52, 32, 45, 13, 10, 65, 45, 98, 58, 32, 120, 32, 121, 13, 10, 67, 111, 110, 116, 101, 110, 116, 45, 76, 69, 78, 71, 84, 72, 58, 32, 51, 13, 10, 13, 10, 104, 101, 108]
def fH : List HL := [([65, 45, 98], [120, 32, 121]), ([67, 111, 110, 116, 101, 110, 116, 45, 76, 69, 78, 71, 84, 72], [51])]
def fG : List HL := [([99, 111, 110, 116, 101, 110, 116, 45, 108, 101, 110, 103, 116, 104], [48, 48, 48, 48, 48, 57]), ([120], [])]
def badL : List (List UInt8) := [[], [72, 84, 84, 80, 47, 49, 46, 49, 32, 50, 48, 48, 32, 45], [72, 84, 84, 80, 47, 49, 46, 49, 32, 50, 48, 48, 32, 45, 13, 10], [72, 84, 84, 80, 47, 49, 46, 48, 32, 50, 48, 48, 32, 45, 13, 10, 13, 10], [72, 84, 84, 80, 47, 49, 46, 49, 32, 50, 48, 32, 45, 13, 10, 13, 10], [72, 84, 84, 80, 47, 49, 46, 49, 32, 48, 57, 57, 32, 45, 13, 10, 13, 10], [72, 84, 84, 80, 47, 49, 46, 49, 32, 54, 48, 48, 32, 45, 13, 10, 13, 10], [72, 84, 84, 80, 47, 49, 46, 49, 32, 50, 120, 48, 32, 45, 13, 10, 13, 10], [72, 84, 84, 80, 47, 49, 46, 49, 32, 50, 48, 48, 32, 45, 10, 10], [72, 84, 84, 80, 47, 49, 46, 49, 32, 50, 48, 48, 32, 45, 13, 10, 120, 13, 10, 13, 10], [72, 84, 84, 80, 47, 49, 46, 49, 32, 50, 48, 48, 32, 45, 13, 10, 58, 32, 120, 13, 10, 13, 10], [72, 84, 84, 80, 47, 49, 46, 49, 32, 50, 48, 48, 32, 45, 13, 10, 97, 32, 98, 58, 32, 120, 13, 10, 13, 10], [72, 84, 84, 80, 47, 49, 46, 49, 32, 50, 48, 48, 32, 45, 13, 10, 120, 58, 32, 9, 13, 10, 13, 10], [72, 84, 84, 80, 47, 49, 46, 49, 32, 50, 48, 48, 32, 45, 13, 10, 99, 111, 110, 116, 101, 110, 116, 45, 108, 101, 110, 103, 116, 104, 58, 32, 120, 13, 10, 13, 10], [72, 84, 84, 80, 47, 49, 46, 49, 32, 50, 48, 48, 32, 45, 13, 10, 99, 111, 110, 116, 101, 110, 116, 45, 108, 101, 110, 103, 116, 104, 58, 32, 49, 50, 51, 52, 53, 54, 55, 13, 10, 13, 10], [72, 84, 84, 80, 47, 49, 46, 49, 32, 50, 48, 48, 32, 45, 13, 10, 99, 111, 110, 116, 101, 110, 116, 45, 108, 101, 110, 103, 116, 104, 58, 32, 49, 13, 10, 67, 111, 110, 116, 101, 110, 116, 45, 76, 101, 110, 103, 116, 104, 58, 32, 49, 13, 10, 13, 10, 97], [72, 84, 84, 80, 47, 49, 46, 49, 32, 50, 48, 48, 32, 45, 13, 10, 97, 58, 32, 49, 13, 10, 97, 58, 32, 49, 13, 10, 97, 58, 32, 49, 13, 10, 97, 58, 32, 49, 13, 10, 97, 58, 32, 49, 13, 10, 97, 58, 32, 49, 13, 10, 97, 58, 32, 49, 13, 10, 97, 58, 32, 49, 13, 10, 97, 58, 32, 49, 13, 10, 13, 10], [72, 84, 84, 80, 47, 49, 46, 49, 32, 50, 48, 48, 32, 45, 13, 10, 97, 98, 99, 100, 101, 102, 103, 104, 105, 106, 107, 108, 109, 110, 111, 112, 113, 114, 115, 116, 117, 58, 32, 49, 13, 10, 13, 10], [72, 84, 84, 80, 47, 49, 46, 49, 32, 50, 48, 48, 32, 45, 13, 10, 120, 58, 32, 49, 50, 51, 52, 53, 54, 55, 56, 57, 48, 49, 50, 51, 52, 53, 54, 55, 56, 57, 48, 49, 50, 51, 52, 53, 54, 55, 56, 57, 48, 49, 50, 51, 52, 53, 54, 55, 56, 57, 48, 49, 13, 10, 13, 10]]
set_option maxRecDepth 100000 in
theorem fA_ok : outR fA = ⟨404, fH, [104, 101, 108], false⟩ ∧ errR fA = 0 := out_some (by kernel_rfl)
set_option maxRecDepth 100000 in
theorem fB_ok : outR fB = ⟨100, fG, [97, 98], true⟩ ∧ errR fB = 0 := out_some (by kernel_rfl)
set_option maxRecDepth 100000 in
theorem bad_all : (badL.all fun l => (parseL l).isNone) = true := by kernel_rfl
theorem bad_ok {l : List UInt8} (h : l ∈ badL) : outR l = ⟨0, [], [], false⟩ ∧ errR l = 2 := by
  have := List.all_eq_true.1 bad_all l h
  exact out_none (by simpa using this)
theorem bad_sz : ∀ l ∈ badL, l.length ≤ 1000 := by
  have h : (badL.all fun l => decide (l.length ≤ 1000)) = true := by kernel_rfl
  intro l hl
  simpa using List.all_eq_true.1 h l hl
theorem fP_ok : printL 404 fH [104, 101, 108] = fP := by
  unfold printL printTop
  rw [dd404]
  rfl
theorem sat_of {l : List (List UInt8)} {k : Int} (h0 : 0 ≤ k) (h1 : k < l.length) : ∃ x ∈ l, sat (l.map strOf) k = strOf x := by
  obtain ⟨j, rfl⟩ : ∃ j : Nat, k = (j : Int) := ⟨k.toNat, by omega⟩
  have hj : j < l.length := by omega
  refine ⟨l[j], List.getElem_mem hj, ?_⟩
  rw [sat_get (by rw [List.length_map]; exact hj), List.getElem_map]
set_option maxRecDepth 100000 in
set_option maxHeartbeats 4000000 in
theorem rforms_spec {w0 w : World} {I : Imm} {L : Own} (hst : St w0 w I L) (hM : MaxK I) (hT : TabK I) (n : Int) (hn : i64ok n) :
    Calls Tryd.prog 5 #[.int .i64 n] w fun e w' => e = .returned (.bool true) ∧ ∃ I', I.le I' ∧ St w0 w' I' L := by
  refine enter Tryd.func5 rfl (N := 144) rfl rfl ?_
  simp only [List.zipIdx_cons, List.zipIdx_nil, List.map_cons, List.map_nil, Nat.zero_add, Nat.reduceAdd]
  have hle := Imm.le.refl I
  refine CW.seq ?_
  -- region 0
  refine CW.region ?_
  refine RW.op1 rfl (runs_assign rfl) ?_
  refine RW.done ?_
  refine AQ.next ?_
  refine CW.seq ?_
  -- region 1
  refine CW.region ?_
  refine RW.call rfl call9 rfl rfl (parse2_spec hst hM (strOf fA) (by decide)) ?_
  rintro e w ⟨I1, Av, capv, hI1, rfl, hstn, hv, _, _, _⟩
  clear hst
  have hst := hstn
  clear hstn
  rw [strOf_toList, fA_ok.1, fA_ok.2] at *
  dsimp only at hv ⊢
  replace hM := hM.mono hI1
  replace hT := hT.mono hI1
  replace hle := hle.trans hI1
  refine ⟨_, rfl, ?_⟩
  refine RW.op1 rfl (runs_move rfl) ?_
  refine RW.op1 rfl (runs_extract rfl rfl) ?_
  refine RW.op1 rfl (runs_extract rfl rfl) ?_
  refine RW.opE rfl (runs_alloc ti29 hst) ?_
  rintro _ w ⟨b2, rfl, hstn⟩
  clear hst
  have hst := hstn
  clear hstn
  first
    | refine RW.opE0 (runs_storeW ti29 rfl rfl hst (k := 0) rfl rfl rfl (NoFz.zero _) rfl) ?_
    | refine RW.opE0 (runs_storeP ti29 rfl rfl hst (k := 0) rfl rfl rfl (NoFz.zero _) rfl) ?_
    | refine RW.opE0 (runs_storeW ti29 rfl rfl hst (k := 1) rfl rfl rfl (NoFz.zero _) rfl) ?_
    | refine RW.opE0 (runs_storeP ti29 rfl rfl hst (k := 1) rfl rfl rfl (NoFz.zero _) rfl) ?_
    | refine RW.opE0 (runs_storeW ti29 rfl rfl hst (k := 2) rfl rfl rfl (NoFz.zero _) rfl) ?_
    | refine RW.opE0 (runs_storeP ti29 rfl rfl hst (k := 2) rfl rfl rfl (NoFz.zero _) rfl) ?_
  rintro w hstn
  clear hst
  have hst := hstn
  clear hstn
  try simp only [List.set_cons_zero, List.set_cons_succ] at hst
  refine RW.op1 rfl (runs_assign rfl) ?_
  refine RW.done ?_
  refine AQ.next ?_
  refine CW.seq ?_
  refine CW.seq ?_
  -- region 2
  refine CW.region ?_
  refine RW.op1 rfl (runs_move rfl) ?_
  refine RW.op1 rfl (runs_neI rfl rfl) ?_
  refine RW.op1 rfl (runs_move rfl) ?_
  have hk20 := (show decide ((0 : Int) ≠ 0) = false by decide)
  refine RW.on_guard rfl rfl rfl rfl hk20 ?_
  first
    | refine RW.op1 rfl (runs_fieldAddr0 rfl Tryd.underlying29 rfl ti3 (by decide)) ?_
    | refine RW.op1 rfl (runs_fieldAddr rfl Tryd.underlying29 rfl ti3 (by decide)) ?_
  refine RW.on_guard rfl rfl rfl rfl hk20 ?_
  first
    | refine RW.op1 rfl (runs_load1 sc3 rfl (hst.cell_own (k := 0) rfl rfl)) ?_
    | refine RW.op1 rfl (runs_load1 sc3 rfl (hst.cell_own (k := 1) rfl rfl)) ?_
    | refine RW.op1 rfl (runs_load1 sc3 rfl (hst.cell_own (k := 2) rfl rfl)) ?_
  refine RW.on_guard rfl rfl rfl rfl hk20 ?_
  refine RW.op1 rfl (runs_neI rfl rfl) ?_
  refine RW.op1 rfl (runs_pick_false rfl hk20 rfl) ?_
  refine RW.op1 rfl (runs_move rfl) ?_
  have hk25 := (show decide ((404 : Int) ≠ 404) = false by decide)
  refine RW.on_guard rfl rfl rfl rfl hk25 ?_
  first
    | refine RW.op1 rfl (runs_fieldAddr0 rfl Tryd.underlying29 rfl ti9 (by decide)) ?_
    | refine RW.op1 rfl (runs_fieldAddr rfl Tryd.underlying29 rfl ti9 (by decide)) ?_
  refine RW.on_guard rfl rfl rfl rfl hk25 ?_
  first
    | refine RW.op1 rfl (runs_load1 sc9 rfl (hst.cell_own (k := 0) rfl rfl)) ?_
    | refine RW.op1 rfl (runs_load1 sc9 rfl (hst.cell_own (k := 1) rfl rfl)) ?_
    | refine RW.op1 rfl (runs_load1 sc9 rfl (hst.cell_own (k := 2) rfl rfl)) ?_
  refine RW.on_guard rfl rfl rfl rfl hk25 ?_
  refine RW.op1 rfl (runs_neS rfl rfl) ?_
  refine RW.op1 rfl (runs_pick_false rfl hk25 rfl) ?_
  refine RW.op1 rfl (runs_move rfl) ?_
  have hk30 := (show (!((strOf [104, 101, 108]).toList == (ByteArray.mk #[104, 101, 108]).toList)) = false by rw [strOf_toList, ByteArray.toList_eq]; rfl)
  refine RW.on_guard rfl rfl rfl rfl hk30 ?_
  first
    | refine RW.op1 rfl (runs_fieldAddr0 rfl Tryd.underlying29 rfl ti4 (by decide)) ?_
    | refine RW.op1 rfl (runs_fieldAddr rfl Tryd.underlying29 rfl ti4 (by decide)) ?_
  refine RW.on_guard rfl rfl rfl rfl hk30 ?_
  first
    | refine RW.op1 rfl (runs_load1 sc4 rfl (hst.cell_own (k := 0) rfl rfl)) ?_
    | refine RW.op1 rfl (runs_load1 sc4 rfl (hst.cell_own (k := 1) rfl rfl)) ?_
    | refine RW.op1 rfl (runs_load1 sc4 rfl (hst.cell_own (k := 2) rfl rfl)) ?_
  refine RW.op1 rfl (runs_pick_false rfl hk30 rfl) ?_
  refine RW.op1 rfl (runs_move rfl) ?_
  have hk34 := (show false = false from rfl)
  refine RW.on_guard rfl rfl rfl rfl hk34 ?_
  first
    | refine RW.op1 rfl (runs_fieldAddr0 rfl Tryd.underlying29 rfl ti23 (by decide)) ?_
    | refine RW.op1 rfl (runs_fieldAddr rfl Tryd.underlying29 rfl ti23 (by decide)) ?_
  refine RW.on_guard rfl rfl rfl rfl hk34 ?_
  first
    | refine RW.op1 rfl (runs_load1 sc23 rfl (hst.cell_own (k := 0) rfl rfl)) ?_
    | refine RW.op1 rfl (runs_load1 sc23 rfl (hst.cell_own (k := 1) rfl rfl)) ?_
    | refine RW.op1 rfl (runs_load1 sc23 rfl (hst.cell_own (k := 2) rfl rfl)) ?_
  refine RW.on_guard rfl rfl rfl rfl hk34 ?_
  refine RW.op1 rfl (runs_buildF (cells := [_, _]) bz27 rfl rfl rfl rfl rfl) ?_
  refine RW.on_guard rfl rfl rfl rfl hk34 ?_
  refine RW.op1 rfl (runs_buildF (cells := [_, _]) bz27 rfl rfl rfl rfl rfl) ?_
  refine RW.on_guard rfl rfl rfl rfl hk34 ?_
  refine RW.opE rfl (runs_litF (xs := [.agg #[_, _], .agg #[_, _]]) Tryd.underlying23 ti27 (by decide) rfl rfl rfl rfl rfl hst (by decide)) ?_
  rintro u4 w ⟨Lv4, hstn, hg4⟩
  clear hst
  have hst := hstn
  clear hstn
  obtain ⟨J4, hJ4, hstn, h4⟩ := Grow.freeze hg4 hst
  clear hst
  have hst := hstn
  clear hstn
  replace hM := hM.mono hJ4
  replace hT := hT.mono hJ4
  replace hv := hv.mono hJ4
  replace hle := hle.trans hJ4
  try simp only [List.nil_append] at h4
  replace h4 : RdH J4 u4 (fH.map hrowL) := h4
  have hL := h4
  refine RW.on_guard rfl rfl rfl rfl hk34 ?_
  refine RW.call rfl call11 rfl rfl (sameH_spec hst hv hL (by decide)) ?_
  rintro e w ⟨rfl, hstn⟩
  clear hst
  have hst := hstn
  clear hstn
  refine ⟨_, rfl, ?_⟩
  refine RW.on_guard rfl rfl rfl rfl hk34 ?_
  refine RW.op1 rfl (runs_not rfl) ?_
  refine RW.op1 rfl (runs_pick_false rfl hk34 rfl) ?_
  refine RW.done ?_
  refine AQ.next ?_
  refine CW.cond rfl (fun hc => absurd hc (by decide)) (fun hc => ?_)
  refine CW.skip ?_
  refine AQ.next ?_
  refine CW.seq ?_
  refine CW.seq ?_
  -- region 4
  refine CW.region ?_
  first
    | refine RW.op1 rfl (runs_loadN (vs := [_, _, _, _]) ag29 ti29 rfl hst (k := 0) rfl rfl rfl) ?_
    | refine RW.op1 rfl (runs_loadN (vs := [_, _, _, _]) ag29 ti29 rfl hst (k := 1) rfl rfl rfl) ?_
    | refine RW.op1 rfl (runs_loadN (vs := [_, _, _, _]) ag29 ti29 rfl hst (k := 2) rfl rfl rfl) ?_
  refine RW.call rfl call13 rfl rfl (print_spec hst hT 404 (by decide) (by decide) hv ⟨by decide, by decide⟩ (strOf [104, 101, 108]) (by decide) false) ?_
  rintro e w ⟨rfl, hstn⟩
  clear hst
  have hst := hstn
  clear hstn
  rw [strOf_toList, show ((404 : Int)).toNat = 404 from rfl, fP_ok]
  refine ⟨_, rfl, ?_⟩
  refine RW.op1 rfl (runs_neS rfl rfl) ?_
  refine RW.done ?_
  refine AQ.next ?_
  refine CW.cond rfl (fun hc => absurd hc (by rw [strOf_toList, ByteArray.toList_eq]; exact (by decide : ¬ (!(fP == fP)) = true))) (fun hc => ?_)
  refine CW.skip ?_
  refine AQ.next ?_
  refine CW.seq ?_
  -- region 6
  refine CW.region ?_
  refine RW.call rfl call9 rfl rfl (parse2_spec hst hM (strOf fB) (by decide)) ?_
  rintro e w ⟨I7, Ag, capg, hI7, rfl, hstn, hg, _, _, _⟩
  clear hst
  have hst := hstn
  clear hstn
  rw [strOf_toList, fB_ok.1, fB_ok.2] at *
  dsimp only at hg ⊢
  replace hM := hM.mono hI7
  replace hT := hT.mono hI7
  replace hv := hv.mono hI7
  replace h4 := h4.mono hI7
  replace hL := hL.mono hI7
  replace hle := hle.trans hI7
  refine ⟨_, rfl, ?_⟩
  refine RW.op1 rfl (runs_move rfl) ?_
  refine RW.op1 rfl (runs_extract rfl rfl) ?_
  refine RW.op1 rfl (runs_extract rfl rfl) ?_
  first
    | refine RW.opE0 (runs_storeW ti29 rfl rfl hst (k := 0) rfl rfl rfl (NoFz.zero _) rfl) ?_
    | refine RW.opE0 (runs_storeP ti29 rfl rfl hst (k := 0) rfl rfl rfl (NoFz.zero _) rfl) ?_
    | refine RW.opE0 (runs_storeW ti29 rfl rfl hst (k := 1) rfl rfl rfl (NoFz.zero _) rfl) ?_
    | refine RW.opE0 (runs_storeP ti29 rfl rfl hst (k := 1) rfl rfl rfl (NoFz.zero _) rfl) ?_
    | refine RW.opE0 (runs_storeW ti29 rfl rfl hst (k := 2) rfl rfl rfl (NoFz.zero _) rfl) ?_
    | refine RW.opE0 (runs_storeP ti29 rfl rfl hst (k := 2) rfl rfl rfl (NoFz.zero _) rfl) ?_
  rintro w hstn
  clear hst
  have hst := hstn
  clear hstn
  try simp only [List.set_cons_zero, List.set_cons_succ] at hst
  refine RW.op1 rfl (runs_assign rfl) ?_
  refine RW.done ?_
  refine AQ.next ?_
  refine CW.seq ?_
  refine CW.seq ?_
  -- region 7
  refine CW.region ?_
  refine RW.op1 rfl (runs_move rfl) ?_
  refine RW.op1 rfl (runs_neI rfl rfl) ?_
  refine RW.op1 rfl (runs_move rfl) ?_
  have hk52 := (show decide ((0 : Int) ≠ 0) = false by decide)
  refine RW.on_guard rfl rfl rfl rfl hk52 ?_
  first
    | refine RW.op1 rfl (runs_fieldAddr0 rfl Tryd.underlying29 rfl ti3 (by decide)) ?_
    | refine RW.op1 rfl (runs_fieldAddr rfl Tryd.underlying29 rfl ti3 (by decide)) ?_
  refine RW.on_guard rfl rfl rfl rfl hk52 ?_
  first
    | refine RW.op1 rfl (runs_load1 sc3 rfl (hst.cell_own (k := 0) rfl rfl)) ?_
    | refine RW.op1 rfl (runs_load1 sc3 rfl (hst.cell_own (k := 1) rfl rfl)) ?_
    | refine RW.op1 rfl (runs_load1 sc3 rfl (hst.cell_own (k := 2) rfl rfl)) ?_
  refine RW.on_guard rfl rfl rfl rfl hk52 ?_
  refine RW.op1 rfl (runs_neI rfl rfl) ?_
  refine RW.op1 rfl (runs_pick_false rfl hk52 rfl) ?_
  refine RW.op1 rfl (runs_move rfl) ?_
  have hk57 := (show decide ((100 : Int) ≠ 100) = false by decide)
  refine RW.on_guard rfl rfl rfl rfl hk57 ?_
  first
    | refine RW.op1 rfl (runs_fieldAddr0 rfl Tryd.underlying29 rfl ti4 (by decide)) ?_
    | refine RW.op1 rfl (runs_fieldAddr rfl Tryd.underlying29 rfl ti4 (by decide)) ?_
  refine RW.on_guard rfl rfl rfl rfl hk57 ?_
  first
    | refine RW.op1 rfl (runs_load1 sc4 rfl (hst.cell_own (k := 0) rfl rfl)) ?_
    | refine RW.op1 rfl (runs_load1 sc4 rfl (hst.cell_own (k := 1) rfl rfl)) ?_
    | refine RW.op1 rfl (runs_load1 sc4 rfl (hst.cell_own (k := 2) rfl rfl)) ?_
  refine RW.on_guard rfl rfl rfl rfl hk57 ?_
  refine RW.op1 rfl (runs_not rfl) ?_
  refine RW.op1 rfl (runs_pick_false rfl hk57 rfl) ?_
  refine RW.op1 rfl (runs_move rfl) ?_
  have hk62 := (show (!true) = false from rfl)
  refine RW.on_guard rfl rfl rfl rfl hk62 ?_
  first
    | refine RW.op1 rfl (runs_fieldAddr0 rfl Tryd.underlying29 rfl ti9 (by decide)) ?_
    | refine RW.op1 rfl (runs_fieldAddr rfl Tryd.underlying29 rfl ti9 (by decide)) ?_
  refine RW.on_guard rfl rfl rfl rfl hk62 ?_
  first
    | refine RW.op1 rfl (runs_load1 sc9 rfl (hst.cell_own (k := 0) rfl rfl)) ?_
    | refine RW.op1 rfl (runs_load1 sc9 rfl (hst.cell_own (k := 1) rfl rfl)) ?_
    | refine RW.op1 rfl (runs_load1 sc9 rfl (hst.cell_own (k := 2) rfl rfl)) ?_
  refine RW.on_guard rfl rfl rfl rfl hk62 ?_
  refine RW.op1 rfl (runs_neS rfl rfl) ?_
  refine RW.op1 rfl (runs_pick_false rfl hk62 rfl) ?_
  refine RW.op1 rfl (runs_move rfl) ?_
  have hk67 := (show (!((strOf [97, 98]).toList == (ByteArray.mk #[97, 98]).toList)) = false by rw [strOf_toList, ByteArray.toList_eq]; rfl)
  refine RW.on_guard rfl rfl rfl rfl hk67 ?_
  first
    | refine RW.op1 rfl (runs_fieldAddr0 rfl Tryd.underlying29 rfl ti23 (by decide)) ?_
    | refine RW.op1 rfl (runs_fieldAddr rfl Tryd.underlying29 rfl ti23 (by decide)) ?_
  refine RW.on_guard rfl rfl rfl rfl hk67 ?_
  first
    | refine RW.op1 rfl (runs_load1 sc23 rfl (hst.cell_own (k := 0) rfl rfl)) ?_
    | refine RW.op1 rfl (runs_load1 sc23 rfl (hst.cell_own (k := 1) rfl rfl)) ?_
    | refine RW.op1 rfl (runs_load1 sc23 rfl (hst.cell_own (k := 2) rfl rfl)) ?_
  refine RW.on_guard rfl rfl rfl rfl hk67 ?_
  refine RW.op1 rfl (runs_lenL Tryd.underlying23 rfl) ?_
  refine RW.on_guard rfl rfl rfl rfl hk67 ?_
  refine RW.op1 rfl (runs_neI rfl rfl) ?_
  refine RW.op1 rfl (runs_pick_false rfl hk67 rfl) ?_
  refine RW.op1 rfl (runs_move rfl) ?_
  have hk73 := (show decide (((fG.length : Nat) : Int) ≠ 2) = false by decide)
  refine RW.on_guard rfl rfl rfl rfl hk73 ?_
  first
    | refine RW.op1 rfl (runs_fieldAddr0 rfl Tryd.underlying29 rfl ti23 (by decide)) ?_
    | refine RW.op1 rfl (runs_fieldAddr rfl Tryd.underlying29 rfl ti23 (by decide)) ?_
  refine RW.on_guard rfl rfl rfl rfl hk73 ?_
  first
    | refine RW.op1 rfl (runs_load1 sc23 rfl (hst.cell_own (k := 0) rfl rfl)) ?_
    | refine RW.op1 rfl (runs_load1 sc23 rfl (hst.cell_own (k := 1) rfl rfl)) ?_
    | refine RW.op1 rfl (runs_load1 sc23 rfl (hst.cell_own (k := 2) rfl rfl)) ?_
  refine RW.on_guard rfl rfl rfl rfl hk73 ?_
  refine RW.op1 rfl (RdL.indexAddr Tryd.underlying23 ti27 (by decide) rfl rfl hg (by show (0 : Int) ≤ 1 ∧ (1 : Int) < 2; decide)) ?_
  refine RW.on_guard rfl rfl rfl rfl hk73 ?_
  first
    | refine RW.op1 rfl (runs_fieldAddr0 rfl Tryd.underlying27 rfl ti9 (by decide)) ?_
    | refine RW.op1 rfl (runs_fieldAddr rfl Tryd.underlying27 rfl ti9 (by decide)) ?_
  refine RW.on_guard rfl rfl rfl rfl hk73 ?_
  refine RW.op1 rfl (runs_load1 sc9 rfl (hst.cell_imm (RdL.cellAdd hg (hrow_at (k := 1) (r := hrowL ([120], [])) rfl 1 (.string (strOf [])) rfl)))) ?_
  refine RW.on_guard rfl rfl rfl rfl hk73 ?_
  refine RW.op1 rfl (runs_neS rfl rfl) ?_
  refine RW.op1 rfl (runs_pick_false rfl hk73 rfl) ?_
  refine RW.done ?_
  refine AQ.next ?_
  refine CW.cond rfl (fun hc => absurd hc (by rw [strOf_toList, emptyL]; decide)) (fun hc => ?_)
  refine CW.skip ?_
  refine AQ.next ?_
  refine CW.seq ?_
  -- region 9
  refine CW.region ?_
  refine RW.opE rfl (runs_lit1R Tryd.underlying24 ti9 (by decide) rfl rfl rfl (by simp [Value.oneCell']) hst) ?_
  rintro u9 w ⟨I9, hI9, hstn, h9⟩
  clear hst
  have hst := hstn
  clear hstn
  replace hM := hM.mono hI9
  replace hT := hT.mono hI9
  replace hv := hv.mono hI9
  replace h4 := h4.mono hI9
  replace hL := hL.mono hI9
  replace hg := hg.mono hI9
  replace hle := hle.trans hI9
  have hB : RdS _ u9 (badL.map strOf) := h9
  refine RW.op1 rfl (runs_assign rfl) ?_
  refine RW.done ?_
  refine AQ.next ?_
  refine CW.seq ?_
  -- region 10
  refine CW.region ?_
  refine RW.op1 rfl (runs_move rfl) ?_
  refine RW.op1 rfl (runs_move rfl) ?_
  refine RW.op1 rfl (runs_move rfl) ?_
  refine RW.op1 rfl (RdL.len Tryd.underlying24 rfl hB) ?_
  refine RW.call rfl call8 rfl rfl (within_spec hst (v := n) (n := 19) hn (by unfold i64ok; decide)) ?_
  rintro e w ⟨rfl, hstn⟩
  clear hst
  have hst := hstn
  clear hstn
  have hw0 := (within_range n 19).1
  have hw1 := (within_range n 19).2 (by decide)
  rw [show (((badL.map strOf).length : Nat) : Int) = 19 from rfl]
  generalize within n 19 = j at hw0 hw1 ⊢
  refine ⟨_, rfl, ?_⟩
  refine RW.op1 rfl (RdL.indexAddr Tryd.underlying24 ti9 (by decide) rfl rfl hB (by show 0 ≤ j ∧ j < 19; omega)) ?_
  refine RW.op1 rfl (runs_load1 sc9 rfl (hst.cell_imm (RdS.at hB (by omega) (by show j < 19; omega)))) ?_
  obtain ⟨lb, hlb, hsb⟩ := sat_of (l := badL) hw0 hw1
  rw [hsb]
  have hlz := bad_sz lb hlb
  obtain ⟨hb1, hb2⟩ := bad_ok hlb
  refine RW.call rfl call9 rfl rfl (parse2_spec hst hM (strOf lb) (by rw [strOfZ]; omega)) ?_
  rintro e w ⟨I11, Ax, capx, hI11, rfl, hstn, hx, _, _, _⟩
  clear hst
  have hst := hstn
  clear hstn
  rw [strOf_toList, hb1, hb2] at *
  dsimp only at hx ⊢
  replace hM := hM.mono hI11
  replace hT := hT.mono hI11
  replace hv := hv.mono hI11
  replace h4 := h4.mono hI11
  replace hL := hL.mono hI11
  replace hg := hg.mono hI11
  replace h9 := h9.mono hI11
  replace hB := hB.mono hI11
  replace hle := hle.trans hI11
  refine ⟨_, rfl, ?_⟩
  refine RW.op1 rfl (runs_move rfl) ?_
  refine RW.op1 rfl (runs_extract rfl rfl) ?_
  refine RW.op1 rfl (runs_extract rfl rfl) ?_
  first
    | refine RW.opE0 (runs_storeW ti29 rfl rfl hst (k := 0) rfl rfl rfl (NoFz.zero _) rfl) ?_
    | refine RW.opE0 (runs_storeP ti29 rfl rfl hst (k := 0) rfl rfl rfl (NoFz.zero _) rfl) ?_
    | refine RW.opE0 (runs_storeW ti29 rfl rfl hst (k := 1) rfl rfl rfl (NoFz.zero _) rfl) ?_
    | refine RW.opE0 (runs_storeP ti29 rfl rfl hst (k := 1) rfl rfl rfl (NoFz.zero _) rfl) ?_
    | refine RW.opE0 (runs_storeW ti29 rfl rfl hst (k := 2) rfl rfl rfl (NoFz.zero _) rfl) ?_
    | refine RW.opE0 (runs_storeP ti29 rfl rfl hst (k := 2) rfl rfl rfl (NoFz.zero _) rfl) ?_
  rintro w hstn
  clear hst
  have hst := hstn
  clear hstn
  try simp only [List.set_cons_zero, List.set_cons_succ] at hst
  refine RW.op1 rfl (runs_assign rfl) ?_
  refine RW.done ?_
  refine AQ.next ?_
  refine CW.seq ?_
  -- region 11
  refine CW.region ?_
  refine RW.call rfl call14 rfl rfl (number_spec hst (strOf [48, 48, 48, 49, 50, 51]) (by decide)) ?_
  rintro e w ⟨rfl, hstn⟩
  clear hst
  have hst := hstn
  clear hstn
  rw [strOf_toList]
  refine ⟨_, rfl, ?_⟩
  refine RW.op1 rfl (runs_move rfl) ?_
  refine RW.op1 rfl (runs_extract rfl rfl) ?_
  refine RW.op1 rfl (runs_extract rfl rfl) ?_
  refine RW.op1 rfl (runs_assign rfl) ?_
  refine RW.op1 rfl (runs_assign rfl) ?_
  refine RW.done ?_
  refine AQ.next ?_
  refine CW.seq ?_
  -- region 12
  refine CW.region ?_
  refine RW.call rfl call14 rfl rfl (number_spec hst (strOf [49, 50, 51, 52, 53, 54, 55]) (by decide)) ?_
  rintro e w ⟨rfl, hstn⟩
  clear hst
  have hst := hstn
  clear hstn
  rw [strOf_toList]
  refine ⟨_, rfl, ?_⟩
  refine RW.op1 rfl (runs_move rfl) ?_
  refine RW.op1 rfl (runs_extract rfl rfl) ?_
  refine RW.op1 rfl (runs_extract rfl rfl) ?_
  refine RW.op1 rfl (runs_assign rfl) ?_
  refine RW.op1 rfl (runs_assign rfl) ?_
  refine RW.done ?_
  refine AQ.next ?_
  refine CW.seq ?_
  -- region 13
  refine CW.region ?_
  refine RW.call rfl call14 rfl rfl (number_spec hst (strOf []) (by decide)) ?_
  rintro e w ⟨rfl, hstn⟩
  clear hst
  have hst := hstn
  clear hstn
  rw [strOf_toList]
  refine ⟨_, rfl, ?_⟩
  refine RW.op1 rfl (runs_move rfl) ?_
  refine RW.op1 rfl (runs_extract rfl rfl) ?_
  refine RW.op1 rfl (runs_extract rfl rfl) ?_
  refine RW.op1 rfl (runs_assign rfl) ?_
  refine RW.op1 rfl (runs_assign rfl) ?_
  refine RW.done ?_
  refine AQ.next ?_
  refine CW.seq ?_
  -- region 14
  refine CW.region ?_
  refine RW.call rfl call14 rfl rfl (number_spec hst (strOf [45, 49]) (by decide)) ?_
  rintro e w ⟨rfl, hstn⟩
  clear hst
  have hst := hstn
  clear hstn
  rw [strOf_toList]
  refine ⟨_, rfl, ?_⟩
  refine RW.op1 rfl (runs_move rfl) ?_
  refine RW.op1 rfl (runs_extract rfl rfl) ?_
  refine RW.op1 rfl (runs_extract rfl rfl) ?_
  refine RW.op1 rfl (runs_assign rfl) ?_
  refine RW.op1 rfl (runs_assign rfl) ?_
  refine RW.done ?_
  refine AQ.next ?_
  refine CW.seq ?_
  -- region 15
  refine CW.region ?_
  refine RW.op1 rfl (runs_move rfl) ?_
  refine RW.op1 rfl (runs_eqI rfl rfl) ?_
  refine RW.op1 rfl (runs_move rfl) ?_
  have hk111 := (show decide ((2 : Int) = 2) = true by decide)
  refine RW.on_guard rfl rfl rfl rfl hk111 ?_
  first
    | refine RW.op1 rfl (runs_fieldAddr0 rfl Tryd.underlying29 rfl ti3 (by decide)) ?_
    | refine RW.op1 rfl (runs_fieldAddr rfl Tryd.underlying29 rfl ti3 (by decide)) ?_
  refine RW.on_guard rfl rfl rfl rfl hk111 ?_
  first
    | refine RW.op1 rfl (runs_load1 sc3 rfl (hst.cell_own (k := 0) rfl rfl)) ?_
    | refine RW.op1 rfl (runs_load1 sc3 rfl (hst.cell_own (k := 1) rfl rfl)) ?_
    | refine RW.op1 rfl (runs_load1 sc3 rfl (hst.cell_own (k := 2) rfl rfl)) ?_
  refine RW.on_guard rfl rfl rfl rfl hk111 ?_
  refine RW.op1 rfl (runs_eqI rfl rfl) ?_
  refine RW.op1 rfl (runs_pick_true rfl hk111 rfl) ?_
  refine RW.op1 rfl (runs_move rfl) ?_
  have hk116 := (show decide ((0 : Int) = 0) = true by decide)
  refine RW.on_guard rfl rfl rfl rfl hk116 ?_
  first
    | refine RW.op1 rfl (runs_fieldAddr0 rfl Tryd.underlying29 rfl ti23 (by decide)) ?_
    | refine RW.op1 rfl (runs_fieldAddr rfl Tryd.underlying29 rfl ti23 (by decide)) ?_
  refine RW.on_guard rfl rfl rfl rfl hk116 ?_
  first
    | refine RW.op1 rfl (runs_load1 sc23 rfl (hst.cell_own (k := 0) rfl rfl)) ?_
    | refine RW.op1 rfl (runs_load1 sc23 rfl (hst.cell_own (k := 1) rfl rfl)) ?_
    | refine RW.op1 rfl (runs_load1 sc23 rfl (hst.cell_own (k := 2) rfl rfl)) ?_
  refine RW.on_guard rfl rfl rfl rfl hk116 ?_
  refine RW.op1 rfl (runs_lenL Tryd.underlying23 rfl) ?_
  refine RW.on_guard rfl rfl rfl rfl hk116 ?_
  refine RW.op1 rfl (runs_eqI rfl rfl) ?_
  refine RW.op1 rfl (runs_pick_true rfl hk116 rfl) ?_
  refine RW.op1 rfl (runs_move rfl) ?_
  have hk122 := (show decide ((((([] : List HL)).length : Nat) : Int) = 0) = true by decide)
  refine RW.on_guard rfl rfl rfl rfl hk122 ?_
  refine RW.op1 rfl (runs_move rfl) ?_
  refine RW.op1 rfl (runs_pick_true rfl hk122 rfl) ?_
  refine RW.op1 rfl (runs_move rfl) ?_
  have hk125 := (show (numberR [48, 48, 48, 49, 50, 51]).isSome = true by decide)
  refine RW.on_guard rfl rfl rfl rfl hk125 ?_
  refine RW.op1 rfl (runs_move rfl) ?_
  refine RW.on_guard rfl rfl rfl rfl hk125 ?_
  refine RW.op1 rfl (runs_eqI rfl rfl) ?_
  refine RW.op1 rfl (runs_pick_true rfl hk125 rfl) ?_
  refine RW.op1 rfl (runs_move rfl) ?_
  have hk129 := (show decide ((numberR [48, 48, 48, 49, 50, 51]).getD 0 = 123) = true by decide)
  refine RW.on_guard rfl rfl rfl rfl hk129 ?_
  refine RW.op1 rfl (runs_move rfl) ?_
  refine RW.on_guard rfl rfl rfl rfl hk129 ?_
  refine RW.op1 rfl (runs_not rfl) ?_
  refine RW.op1 rfl (runs_pick_true rfl hk129 rfl) ?_
  refine RW.op1 rfl (runs_move rfl) ?_
  have hk133 := (show (!(numberR [49, 50, 51, 52, 53, 54, 55]).isSome) = true by decide)
  refine RW.on_guard rfl rfl rfl rfl hk133 ?_
  refine RW.op1 rfl (runs_move rfl) ?_
  refine RW.on_guard rfl rfl rfl rfl hk133 ?_
  refine RW.op1 rfl (runs_not rfl) ?_
  refine RW.op1 rfl (runs_pick_true rfl hk133 rfl) ?_
  refine RW.op1 rfl (runs_move rfl) ?_
  have hk137 := (show (!(numberR []).isSome) = true by decide)
  refine RW.on_guard rfl rfl rfl rfl hk137 ?_
  refine RW.op1 rfl (runs_move rfl) ?_
  refine RW.on_guard rfl rfl rfl rfl hk137 ?_
  refine RW.op1 rfl (runs_not rfl) ?_
  refine RW.op1 rfl (runs_pick_true rfl hk137 rfl) ?_
  refine RW.op1 rfl (runs_move rfl) ?_
  have hk141 := (show (!(numberR [45, 49]).isSome) = true by decide)
  refine RW.on_guard rfl rfl rfl rfl hk141 ?_
  refine RW.call rfl call10 rfl rfl (wakes09_spec hst hM) ?_
  rintro e w ⟨rfl, I17, hI17, hstn⟩
  clear hst
  have hst := hstn
  clear hstn
  replace hM := hM.mono hI17
  replace hT := hT.mono hI17
  replace hv := hv.mono hI17
  replace h4 := h4.mono hI17
  replace hL := hL.mono hI17
  replace hg := hg.mono hI17
  replace h9 := h9.mono hI17
  replace hB := hB.mono hI17
  replace hle := hle.trans hI17
  refine ⟨_, rfl, ?_⟩
  refine RW.op1 rfl (runs_pick_true rfl hk141 rfl) ?_
  refine RW.op1 rfl (runs_assign rfl) ?_
  refine RW.done ?_
  refine AQ.next ?_
  refine CW.ret ?_
  refine AQ.ret1 rfl rfl ?_
  exact ⟨rfl, _, hle, hst.drop1⟩
end Go.Proofs.YtfjghkmapccjhaaDoorX
