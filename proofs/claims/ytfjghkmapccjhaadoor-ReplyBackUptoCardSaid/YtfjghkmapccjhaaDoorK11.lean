/- A printed answer is parsed as it was; lengths told too great, too small, twice. -/
import Derived.Test.YtfjghkmapccjhaaDoorT
import Derived.Test.YtfjghkmapccjhaaDoorK9
import Derived.Test.YtfjghkmapccjhaaDoorK8
import Derived.Test.YtfjghkmapccjhaaDoorXE
namespace Go.Proofs.YtfjghkmapccjhaaDoorX
set_option linter.unusedVariables false
set_option linter.unusedSimpArgs false
open Go Go.RowKit Go.Proofs

theorem print_own {w0 w : World} {I : Imm} {L Lv : Own} (A : Own) (hst : St w0 w I (A ++ (Lv ++ L))) (hT : TabK I) {v : Value} {hs : List HL} {n : Nat} (hg : Grow 27 2 v n ((hs.map hrowL).flatMap hrow) Lv) (hn : n = hs.length) (code : Int) (hc1 : 1 ≤ code) (hc2 : code ≤ 9223372036854775807) (hsm : SmL hs) (b : ByteArray) (hb : b.size ≤ 1099511627776) (cut : Bool) :
    Calls Tryd.prog 13 #[.agg #[.int .i64 code, v, .string b, .bool cut]] w fun e w' => ∃ I', Imm.le I I' ∧ e = .returned (.string (strOf (printL code.toNat hs b.toList))) ∧ St w0 w' I' (A ++ (Lv ++ L)) := by
  subst hn
  have hp : (A ++ (Lv ++ L)).Perm (Lv ++ (A ++ L)) := by rw [← List.append_assoc, ← List.append_assoc]; exact List.perm_append_comm.append_right L
  obtain ⟨I1, h1, h2, h3, h4⟩ := hg.lend (hst.perm hp)
  refine (print_spec h2 (hT.mono h1) code hc1 hc2 (v := v) (hs := hs) (by unfold RdH; rw [List.length_map]; exact h3) hsm b hb cut).mono fun e w' ⟨g1, g2⟩ => ?_
  obtain ⟨I3, k1, _, k2⟩ := h4 w' I1 _ (Imm.le.refl _) g2
  exact ⟨I3, k1, g1, k2.perm hp.symm⟩
theorem sameH_own {w0 w : World} {I : Imm} {L Lv : Own} (A : Own) (hst : St w0 w I (A ++ (Lv ++ L))) {va v : Value} {hs : List HL} {n : Nat} (ha : RdH I va (hs.map hrowL)) (hg : Grow 27 2 v n ((hs.map hrowL).flatMap hrow) Lv) (hn : n = hs.length) (hlen : hs.length ≤ 1000) :
    Calls Tryd.prog 11 #[va, v] w fun e w' => ∃ I', Imm.le I I' ∧ e = .returned (.bool true) ∧ St w0 w' I' (A ++ (Lv ++ L)) := by
  subst hn
  have hp : (A ++ (Lv ++ L)).Perm (Lv ++ (A ++ L)) := by rw [← List.append_assoc, ← List.append_assoc]; exact List.perm_append_comm.append_right L
  obtain ⟨I1, h1, h2, h3, h4⟩ := hg.lend (hst.perm hp)
  refine (sameH_spec h2 (RdL.mono h1 ha) (show RdH I1 v (hs.map hrowL) by unfold RdH; rw [List.length_map]; exact h3) (by rw [List.length_map]; omega)).mono fun e w' ⟨g1, g2⟩ => ?_
  obtain ⟨I3, k1, _, k2⟩ := h4 w' I1 _ (Imm.le.refl _) g2
  exact ⟨I3, k1, g1, k2.perm hp.symm⟩
theorem Grow.shape {e : TypeId} {size n : Nat} {v : Value} {xs : List Value} {Lv : Own} (hg : Grow e size v n xs Lv) (h0 : 0 < n) : ∃ g cap cur, v = .slice (some ⟨g, 0, none⟩) n cap ∧ Lv = [(g, .cells cur e)] ∧ n * size ≤ cur.size := by
  obtain ⟨h1, h2, ⟨rfl, rfl, rfl⟩ | ⟨g, cap, cur, rfl, rfl, h3, h4, h5, h6⟩⟩ := hg
  · omega
  · exact ⟨g, cap, cur, rfl, rfl, by rw [h5]; exact Nat.mul_le_mul_right _ h3⟩
theorem sat_of {l : List (List UInt8)} {k : Int} (h0 : 0 ≤ k) (h1 : k < l.length) : ∃ x ∈ l, sat (l.map strOf) k = strOf x := by
  obtain ⟨j, rfl⟩ : ∃ j : Nat, k = (j : Int) := ⟨k.toNat, by omega⟩
  have hj : j < l.length := by omega
  refine ⟨l[j], List.getElem_mem hj, ?_⟩
  rw [sat_get (by rw [List.length_map]; exact hj), List.getElem_map]
def rowOf (h : HL) : List UInt8 × HL := (h.1 ++ 58 :: 32 :: h.2, h)
theorem print_rows (n : Nat) (hs : List HL) (b : List UInt8) : printL n hs b = firstL n ++ 13 :: 10 :: rowsT (hs.map rowOf) b := by
  have h : ∀ hs : List HL, rowsP (hs.map rowOf) = hs.flatMap printRow := by
    intro hs
    induction hs with
    | nil => rfl
    | cons h r ih =>
      unfold rowsP at ih ⊢
      rw [List.map_cons, List.flatMap_cons, ih, List.flatMap_cons]
      unfold printRow rowOf
      simp
  rw [rowsT_eq, h]
  unfold printL printTop firstL
  simp
theorem rowOf_map (hs : List HL) : (hs.map rowOf).map (·.2) = hs := by
  rw [List.map_map]
  conv => rhs; rw [← List.map_id hs]
  rfl
def bk0 : List HL := [(etagT, [120])]
def bk1 (nm : List UInt8) (K : Nat) : List HL := [(etagT, [120]), (nm, Lib.decDigits K)]
def bk2 (nm : List UInt8) (K : Nat) : List HL := [(etagT, [120]), (nm, Lib.decDigits K), (nm, Lib.decDigits K)]
def nmL : List (List UInt8) := [lenN, clL, [67, 79, 78, 84, 69, 78, 84, 45, 76, 69, 78, 71, 84, 72]]
theorem nmL_ok : ∀ nm ∈ nmL, nmOk nm = true ∧ (∀ c ∈ nm, c ≠ 58 ∧ c ≠ 13) ∧ isCL nm = true ∧ nm.length = 14 := by decide
theorem bk_good {nm : List UInt8} (h : nm ∈ nmL) {K : Nat} (hK : K < 1000000) : GoodR (rowOf (nm, Lib.decDigits K)) := by
  obtain ⟨h1, h2, _⟩ := nmL_ok nm h
  exact len_row h1 h2 K hK
theorem etag_good : GoodR (rowOf (etagT, [120])) := ⟨by decide, by decide, by decide⟩
theorem bk0_out {n : Nat} (h1 : 100 ≤ n) (h2 : n ≤ 599) (b : List UInt8) : outR (printL n bk0 b) = ⟨n, bk0, b, false⟩ ∧ errR (printL n bk0 b) = 0 := by
  refine out_some ?_
  rw [print_rows, parse_rows h1 h2 _ _ (by intro x hx; simp only [bk0, List.map_cons, List.map_nil, List.mem_cons, List.not_mem_nil, or_false] at hx; rw [hx]; exact etag_good), if_pos (show (bk0.map rowOf).length ≤ 8 from (show 1 ≤ 8 by decide)), rowOf_map]
  rfl
theorem bk1_out {n : Nat} (h1 : 100 ≤ n) (h2 : n ≤ 599) {nm : List UInt8} (hn : nm ∈ nmL) {K : Nat} (hK : K < 1000000) (b : List UInt8) : outR (printL n (bk1 nm K) b) = ⟨n, bk1 nm K, b.take K, decide (b.length < K)⟩ ∧ errR (printL n (bk1 nm K) b) = 0 := by
  refine out_some ?_
  rw [print_rows, parse_rows h1 h2 _ _ (by intro x hx; simp only [bk1, List.map_cons, List.map_nil, List.mem_cons, List.not_mem_nil, or_false] at hx; rcases hx with rfl | rfl; exact etag_good; exact bk_good hn hK), if_pos (show ((bk1 nm K).map rowOf).length ≤ 8 from (show 2 ≤ 8 by decide)), rowOf_map]
  have ht : toldL (bk1 nm K) = [Lib.decDigits K] := by
    unfold bk1
    rw [toldL_cons, toldL_cons, if_neg (by decide), if_pos (nmL_ok nm hn).2.2.1]
    rfl
  rw [ht, body_len K hK]
theorem bk2_out {n : Nat} (h1 : 100 ≤ n) (h2 : n ≤ 599) {nm : List UInt8} (hn : nm ∈ nmL) {K : Nat} (hK : K < 1000000) (b : List UInt8) : outR (printL n (bk2 nm K) b) = ⟨0, [], [], false⟩ ∧ errR (printL n (bk2 nm K) b) = 2 := by
  refine out_none ?_
  rw [print_rows, parse_rows h1 h2 _ _ (by intro x hx; simp only [bk2, List.map_cons, List.map_nil, List.mem_cons, List.not_mem_nil, or_false] at hx; rcases hx with rfl | rfl | rfl; exact etag_good; exact bk_good hn hK; exact bk_good hn hK), if_pos (show ((bk2 nm K).map rowOf).length ≤ 8 from (show 3 ≤ 8 by decide)), rowOf_map]
  have ht : toldL (bk2 nm K) = [Lib.decDigits K, Lib.decDigits K] := by
    unfold bk2
    rw [toldL_cons, toldL_cons, toldL_cons, if_neg (by decide), if_pos (nmL_ok nm hn).2.2.1, if_pos (nmL_ok nm hn).2.2.1]
    rfl
  rw [ht]
  rfl
theorem printL_len {n : Nat} (h1 : 100 ≤ n) (h2 : n ≤ 599) {hs : List HL} (h : SmL hs) (b : List UInt8) : (printL n hs b).length ≤ 2000000100 + b.length := by
  have h3 := dd_three h1 (by omega)
  have h4 := rows_take h hs.length
  rw [List.take_length] at h4
  unfold printL printTop
  simp only [List.length_append, h3]
  show 9 + 3 + 2 + 2 + _ + 2 + _ ≤ _
  omega
theorem bk_sm {nm : List UInt8} (h : nm ∈ nmL) {K : Nat} (hK : K < 1000000) : SmL bk0 ∧ SmL (bk1 nm K) ∧ SmL (bk2 nm K) := by
  have hl := (nmL_ok nm h).2.2.2
  have hd := dd_le 5 K (by omega)
  refine ⟨⟨by decide, by decide⟩, ⟨by show 2 ≤ _; decide, fun x hx => ?_⟩, ⟨by show 3 ≤ _; decide, fun x hx => ?_⟩⟩
  · simp only [bk1, List.mem_cons, List.not_mem_nil, or_false] at hx
    rcases hx with rfl | rfl
    · decide
    · exact ⟨by dsimp only; omega, by dsimp only; omega⟩
  · simp only [bk2, List.mem_cons, List.not_mem_nil, or_false] at hx
    rcases hx with rfl | rfl | rfl
    · decide
    · exact ⟨by dsimp only; omega, by dsimp only; omega⟩
    · exact ⟨by dsimp only; omega, by dsimp only; omega⟩
set_option maxRecDepth 100000 in
set_option maxHeartbeats 4000000 in
theorem rback_spec {w0 w : World} {I : Imm} {L : Own} (hst : St w0 w I L) (hM : MaxK I) (hT : TabK I) (n0 : Int) (hn : i64ok n0) (b : ByteArray) (hb : b.size ≤ 1048576) (l0 h0 : Int) (hl0 : i64ok l0) (hh0 : i64ok h0) :
    Calls Tryd.prog 7 #[.int .i64 n0, .string b, .int .i64 l0, .int .i64 h0] w fun e w' => e = .returned (.bool true) ∧ ∃ I', I.le I' ∧ St w0 w' I' L := by
  have hbz := size_toList b
  refine enter Tryd.func7 rfl (N := 140) rfl rfl ?_
  simp only [List.zipIdx_cons, List.zipIdx_nil, List.map_cons, List.map_nil, Nat.zero_add, Nat.reduceAdd]
  have hle := Imm.le.refl I
  refine CW.seq ?_
  -- region 0
  refine CW.region ?_
  refine RW.op1 rfl (runs_assign rfl) ?_
  refine RW.done ?_
  refine AQ.next ?_
  refine CW.seq ?_
  -- region 1
  refine CW.region ?_
  refine RW.op1 rfl (runs_move rfl) ?_
  refine RW.call rfl call8 rfl rfl (within_spec hst (v := n0) (n := 500) hn (by unfold i64ok; decide)) ?_
  rintro e w ⟨rfl, hstn⟩
  clear hst
  have hst := hstn
  clear hstn
  have hw0 := (within_range n0 500).1
  have hw1 := (within_range n0 500).2 (by decide)
  generalize within n0 500 = x at hw0 hw1 ⊢
  refine ⟨_, rfl, ?_⟩
  refine RW.op1 rfl (runs_add rfl rfl (by omega)) ?_
  obtain ⟨cd, hcd⟩ : ∃ cd : Nat, 100 + x = (cd : Int) := ⟨(100 + x).toNat, by omega⟩
  rw [hcd]
  have hc1 : 100 ≤ cd := by omega
  have hc2 : cd ≤ 599 := by omega
  have hsm0 : SmL bk0 := ⟨by decide, by decide⟩
  have ho0 := bk0_out hc1 hc2 b.toList
  refine RW.op1 rfl (runs_buildF (cells := [_, _]) bz27 rfl rfl rfl rfl rfl) ?_
  refine RW.opE rfl (runs_litF (xs := [.agg #[_, _]]) Tryd.underlying23 ti27 (by decide) rfl rfl rfl rfl rfl hst (by decide)) ?_
  rintro uH w ⟨LvH, hstn, hgH⟩
  clear hst
  have hst := hstn
  clear hstn
  replace hgH : Grow 27 2 uH 1 ((bk0.map hrowL).flatMap hrow) LvH := hgH
  obtain ⟨gH, cH, hcurH, rfl, rfl, _⟩ := Grow.shape hgH (by decide)
  refine RW.op1 rfl (runs_move rfl) ?_
  refine RW.op1 rfl (runs_buildF (cells := [_, _, _, _]) bz29 rfl rfl rfl rfl rfl) ?_
  refine RW.opE rfl (runs_alloc ti29 hst) ?_
  rintro _ w ⟨b9, rfl, hstn⟩
  clear hst
  have hst := hstn
  clear hstn
  first
    | refine RW.opE0 (runs_storeW ti29 rfl rfl hst (k := 0) rfl rfl rfl (NoFz.zero _) rfl) ?_
    | refine RW.opE0 (runs_storeP ti29 rfl rfl hst (k := 0) rfl rfl rfl (NoFz.zero _) rfl) ?_
    | refine RW.opE0 (runs_storeW ti29 rfl rfl hst (k := 1) rfl rfl rfl (NoFz.zero _) rfl) ?_
    | refine RW.opE0 (runs_storeP ti29 rfl rfl hst (k := 1) rfl rfl rfl (NoFz.zero _) rfl) ?_
    | refine RW.opE0 (runs_storeW ti29 rfl rfl hst (k := 2) rfl rfl rfl (NoFz.zero _) rfl) ?_
    | refine RW.opE0 (runs_storeP ti29 rfl rfl hst (k := 2) rfl rfl rfl (NoFz.zero _) rfl) ?_
  rintro w hstn
  clear hst
  have hst := hstn
  clear hstn
  try simp only [List.set_cons_zero, List.set_cons_succ] at hst
  refine RW.done ?_
  refine AQ.next ?_
  refine CW.seq ?_
  -- region 2
  refine CW.region ?_
  first
    | refine RW.op1 rfl (runs_loadN (vs := [_, _, _, _]) ag29 ti29 rfl hst (k := 0) rfl rfl rfl) ?_
    | refine RW.op1 rfl (runs_loadN (vs := [_, _, _, _]) ag29 ti29 rfl hst (k := 1) rfl rfl rfl) ?_
    | refine RW.op1 rfl (runs_loadN (vs := [_, _, _, _]) ag29 ti29 rfl hst (k := 2) rfl rfl rfl) ?_
  refine RW.call rfl call13 rfl rfl (print_own [_] hst hT hgH (hs := bk0) rfl (cd : Int) (by omega) (by omega) hsm0 b (by omega) false) ?_
  rintro e w ⟨I2, hI2, rfl, hstn⟩
  clear hst
  have hst := hstn
  clear hstn
  rw [Int.toNat_natCast]
  have hst2 : St w0 w I2 ((b9, Obj.cells (Value.agg #[.int .i64 ((cd : Int)), (.slice (some ⟨gH, 0, none⟩) 1 cH), .string (b), .bool (false)]).cells 29) :: ([(gH, .cells hcurH 27)] ++ L)) := hst
  clear hst
  have hst := hst2
  clear hst2
  replace hM := hM.mono hI2
  replace hT := hT.mono hI2
  replace hle := hle.trans hI2
  refine ⟨_, rfl, ?_⟩
  refine RW.call rfl call9 rfl rfl (parse2_spec hst hM (strOf (printL cd bk0 b.toList)) (by rw [strOfZ]; have := printL_len hc1 hc2 hsm0 b.toList; omega)) ?_
  rintro e w ⟨I3, A1, cA1, hI3, rfl, hstn, hv1, _, _, _⟩
  clear hst
  have hst := hstn
  clear hstn
  rw [strOf_toList, ho0.1, ho0.2] at *
  dsimp only at hv1 ⊢
  replace hM := hM.mono hI3
  replace hT := hT.mono hI3
  replace hle := hle.trans hI3
  refine ⟨_, rfl, ?_⟩
  refine RW.op1 rfl (runs_move rfl) ?_
  refine RW.op1 rfl (runs_extract rfl rfl) ?_
  refine RW.op1 rfl (runs_extract rfl rfl) ?_
  refine RW.opE rfl (runs_alloc ti29 hst) ?_
  rintro _ w ⟨b10, rfl, hstn⟩
  clear hst
  have hst := hstn
  clear hstn
  first
    | refine RW.opE0 (runs_storeW ti29 rfl rfl hst (k := 0) rfl rfl rfl (NoFz.zero _) rfl) ?_
    | refine RW.opE0 (runs_storeP ti29 rfl rfl hst (k := 0) rfl rfl rfl (NoFz.zero _) rfl) ?_
    | refine RW.opE0 (runs_storeW ti29 rfl rfl hst (k := 1) rfl rfl rfl (NoFz.zero _) rfl) ?_
    | refine RW.opE0 (runs_storeP ti29 rfl rfl hst (k := 1) rfl rfl rfl (NoFz.zero _) rfl) ?_
    | refine RW.opE0 (runs_storeW ti29 rfl rfl hst (k := 2) rfl rfl rfl (NoFz.zero _) rfl) ?_
    | refine RW.opE0 (runs_storeP ti29 rfl rfl hst (k := 2) rfl rfl rfl (NoFz.zero _) rfl) ?_
  rintro w hstn
  clear hst
  have hst := hstn
  clear hstn
  try simp only [List.set_cons_zero, List.set_cons_succ] at hst
  refine RW.op1 rfl (runs_assign rfl) ?_
  refine RW.done ?_
  refine AQ.next ?_
  refine CW.seq ?_
  refine CW.seq ?_
  -- region 3
  refine CW.region ?_
  refine RW.op1 rfl (runs_move rfl) ?_
  refine RW.op1 rfl (runs_neI rfl rfl) ?_
  refine RW.op1 rfl (runs_move rfl) ?_
  have hk29 := (show decide ((0 : Int) ≠ 0) = false by decide)
  refine RW.on_guard rfl rfl rfl rfl hk29 ?_
  first
    | refine RW.op1 rfl (runs_fieldAddr0 rfl Tryd.underlying29 rfl ti3 (by decide)) ?_
    | refine RW.op1 rfl (runs_fieldAddr rfl Tryd.underlying29 rfl ti3 (by decide)) ?_
  refine RW.on_guard rfl rfl rfl rfl hk29 ?_
  first
    | refine RW.op1 rfl (runs_load1 sc3 rfl (hst.cell_own (k := 0) rfl rfl)) ?_
    | refine RW.op1 rfl (runs_load1 sc3 rfl (hst.cell_own (k := 1) rfl rfl)) ?_
    | refine RW.op1 rfl (runs_load1 sc3 rfl (hst.cell_own (k := 2) rfl rfl)) ?_
  refine RW.on_guard rfl rfl rfl rfl hk29 ?_
  first
    | refine RW.op1 rfl (runs_fieldAddr0 rfl Tryd.underlying29 rfl ti3 (by decide)) ?_
    | refine RW.op1 rfl (runs_fieldAddr rfl Tryd.underlying29 rfl ti3 (by decide)) ?_
  refine RW.on_guard rfl rfl rfl rfl hk29 ?_
  first
    | refine RW.op1 rfl (runs_load1 sc3 rfl (hst.cell_own (k := 0) rfl rfl)) ?_
    | refine RW.op1 rfl (runs_load1 sc3 rfl (hst.cell_own (k := 1) rfl rfl)) ?_
    | refine RW.op1 rfl (runs_load1 sc3 rfl (hst.cell_own (k := 2) rfl rfl)) ?_
  refine RW.on_guard rfl rfl rfl rfl hk29 ?_
  refine RW.op1 rfl (runs_neI rfl rfl) ?_
  refine RW.op1 rfl (runs_pick_false rfl hk29 rfl) ?_
  refine RW.op1 rfl (runs_move rfl) ?_
  have hk36 := (show decide (((cd : Nat) : Int) ≠ ((cd : Nat) : Int)) = false by simp)
  refine RW.on_guard rfl rfl rfl rfl hk36 ?_
  first
    | refine RW.op1 rfl (runs_fieldAddr0 rfl Tryd.underlying29 rfl ti9 (by decide)) ?_
    | refine RW.op1 rfl (runs_fieldAddr rfl Tryd.underlying29 rfl ti9 (by decide)) ?_
  refine RW.on_guard rfl rfl rfl rfl hk36 ?_
  first
    | refine RW.op1 rfl (runs_load1 sc9 rfl (hst.cell_own (k := 0) rfl rfl)) ?_
    | refine RW.op1 rfl (runs_load1 sc9 rfl (hst.cell_own (k := 1) rfl rfl)) ?_
    | refine RW.op1 rfl (runs_load1 sc9 rfl (hst.cell_own (k := 2) rfl rfl)) ?_
  refine RW.on_guard rfl rfl rfl rfl hk36 ?_
  refine RW.op1 rfl (runs_move rfl) ?_
  refine RW.on_guard rfl rfl rfl rfl hk36 ?_
  refine RW.op1 rfl (runs_neS rfl rfl) ?_
  refine RW.op1 rfl (runs_pick_false rfl hk36 rfl) ?_
  refine RW.op1 rfl (runs_move rfl) ?_
  have hk42 := (show (!((strOf b.toList).toList == b.toList)) = false by rw [strOf_toList]; simp)
  refine RW.on_guard rfl rfl rfl rfl hk42 ?_
  first
    | refine RW.op1 rfl (runs_fieldAddr0 rfl Tryd.underlying29 rfl ti4 (by decide)) ?_
    | refine RW.op1 rfl (runs_fieldAddr rfl Tryd.underlying29 rfl ti4 (by decide)) ?_
  refine RW.on_guard rfl rfl rfl rfl hk42 ?_
  first
    | refine RW.op1 rfl (runs_load1 sc4 rfl (hst.cell_own (k := 0) rfl rfl)) ?_
    | refine RW.op1 rfl (runs_load1 sc4 rfl (hst.cell_own (k := 1) rfl rfl)) ?_
    | refine RW.op1 rfl (runs_load1 sc4 rfl (hst.cell_own (k := 2) rfl rfl)) ?_
  refine RW.op1 rfl (runs_pick_false rfl hk42 rfl) ?_
  refine RW.op1 rfl (runs_move rfl) ?_
  have hk46 := (show false = false from rfl)
  refine RW.on_guard rfl rfl rfl rfl hk46 ?_
  first
    | refine RW.op1 rfl (runs_fieldAddr0 rfl Tryd.underlying29 rfl ti23 (by decide)) ?_
    | refine RW.op1 rfl (runs_fieldAddr rfl Tryd.underlying29 rfl ti23 (by decide)) ?_
  refine RW.on_guard rfl rfl rfl rfl hk46 ?_
  first
    | refine RW.op1 rfl (runs_load1 sc23 rfl (hst.cell_own (k := 0) rfl rfl)) ?_
    | refine RW.op1 rfl (runs_load1 sc23 rfl (hst.cell_own (k := 1) rfl rfl)) ?_
    | refine RW.op1 rfl (runs_load1 sc23 rfl (hst.cell_own (k := 2) rfl rfl)) ?_
  refine RW.on_guard rfl rfl rfl rfl hk46 ?_
  first
    | refine RW.op1 rfl (runs_fieldAddr0 rfl Tryd.underlying29 rfl ti23 (by decide)) ?_
    | refine RW.op1 rfl (runs_fieldAddr rfl Tryd.underlying29 rfl ti23 (by decide)) ?_
  refine RW.on_guard rfl rfl rfl rfl hk46 ?_
  first
    | refine RW.op1 rfl (runs_load1 sc23 rfl (hst.cell_own (k := 0) rfl rfl)) ?_
    | refine RW.op1 rfl (runs_load1 sc23 rfl (hst.cell_own (k := 1) rfl rfl)) ?_
    | refine RW.op1 rfl (runs_load1 sc23 rfl (hst.cell_own (k := 2) rfl rfl)) ?_
  refine RW.on_guard rfl rfl rfl rfl hk46 ?_
  refine RW.call rfl call11 rfl rfl (sameH_own [_, _] hst hv1 hgH rfl (by decide)) ?_
  rintro e w ⟨I4, hI4, rfl, hstn⟩
  clear hst
  have hst := hstn
  clear hstn
  have hst2 : St w0 w I4 ((b10, Obj.cells (Value.agg #[.int .i64 ((cd : Int)), (.slice A1 bk0.length cA1), .string ((strOf b.toList)), .bool (false)]).cells 29) :: (b9, Obj.cells (Value.agg #[.int .i64 ((cd : Int)), (.slice (some ⟨gH, 0, none⟩) 1 cH), .string (b), .bool (false)]).cells 29) :: ([(gH, .cells hcurH 27)] ++ L)) := hst
  clear hst
  have hst := hst2
  clear hst2
  replace hM := hM.mono hI4
  replace hT := hT.mono hI4
  replace hv1 := hv1.mono hI4
  replace hle := hle.trans hI4
  refine ⟨_, rfl, ?_⟩
  refine RW.on_guard rfl rfl rfl rfl hk46 ?_
  refine RW.op1 rfl (runs_not rfl) ?_
  refine RW.op1 rfl (runs_pick_false rfl hk46 rfl) ?_
  refine RW.done ?_
  refine AQ.next ?_
  refine CW.cond rfl (fun hc => absurd hc (by decide)) (fun hc => ?_)
  refine CW.skip ?_
  refine AQ.next ?_
  refine CW.seq ?_
  -- region 5
  refine CW.region ?_
  refine RW.op1 rfl (runs_move rfl) ?_
  refine RW.op1 rfl (runs_move rfl) ?_
  refine RW.op1 rfl (runs_lenS Tryd.underlying9 rfl) ?_
  refine RW.op1 rfl (runs_add rfl rfl (by omega)) ?_
  refine RW.call rfl call8 rfl rfl (within_spec hst (v := l0) (n := ((b.size : Nat) : Int) + 9) hl0 (by unfold i64ok; omega)) ?_
  rintro e w ⟨rfl, hstn⟩
  clear hst
  have hst := hstn
  clear hstn
  have hk0 := (within_range l0 (((b.size : Nat) : Int) + 9)).1
  have hk1 := (within_range l0 (((b.size : Nat) : Int) + 9)).2 (by omega)
  obtain ⟨K, hK⟩ : ∃ K : Nat, within l0 (((b.size : Nat) : Int) + 9) = (K : Int) := ⟨(within l0 (((b.size : Nat) : Int) + 9)).toNat, by omega⟩
  rw [hK] at hk1 ⊢
  clear hk0 hK
  refine ⟨_, rfl, ?_⟩
  refine RW.op1 rfl (runs_assign rfl) ?_
  refine RW.done ?_
  refine AQ.next ?_
  refine CW.seq ?_
  -- region 6
  refine CW.region ?_
  refine RW.op1 rfl (runs_assign rfl) ?_
  refine RW.done ?_
  refine AQ.next ?_
  refine CW.seq ?_
  refine CW.seq ?_
  -- region 7
  refine CW.region ?_
  refine RW.op1 rfl (runs_move rfl) ?_
  refine RW.op1 rfl (runs_assign rfl) ?_
  refine RW.done ?_
  refine AQ.next ?_
  refine CW.block ?_
  -- loop 1
  refine CW.loop (Nat × List UInt8 × Imm) (fun x w => I.le x.2.2 ∧ MaxK x.2.2 ∧ TabK x.2.2 ∧ St w0 w x.2.2 ((b10, Obj.cells (Value.agg #[.int .i64 ((cd : Int)), (.slice A1 bk0.length cA1), .string ((strOf b.toList)), .bool (false)]).cells 29) :: (b9, Obj.cells (Value.agg #[.int .i64 ((cd : Int)), (.slice (some ⟨gH, 0, none⟩) 1 cH), .string (b), .bool (false)]).cells 29) :: ([(gH, .cells hcurH 27)] ++ L)) ∧ DigR K x.1 x.2.1) (fun x => [(1, .string b), (2, .int .i64 (K : Int)), (3, .int .i64 h0), (9, .pointer (some ⟨b9, 0, none⟩)), (10, .pointer (some ⟨b10, 0, none⟩)), (12, .string (strOf x.2.1)), (13, .int .i64 (x.1 : Int))]) (fun x => x.1 + if x.2.1 = [] then 1 else 0) ⟨(K, [], _), ⟨hle, hM, hT, hst, .inl ⟨rfl, rfl⟩⟩, ⟨rfl, rfl, rfl, rfl, rfl, rfl, rfl, trivial⟩⟩ ?_
  clear hle hM hT
  rintro ⟨k, d, I5⟩ w ⟨hle, hM, hT, hstn, hdr⟩
  dsimp only at hle hM hT hstn hdr ⊢
  clear hst
  have hst := hstn
  clear hstn
  obtain ⟨hdl, hkl⟩ := hdr.len (by omega)
  refine CW.seq ?_
  refine CW.seq ?_
  -- region 8
  refine CW.cut Unit (fun _ w => St w0 w I5 ((b10, Obj.cells (Value.agg #[.int .i64 ((cd : Int)), (.slice A1 bk0.length cA1), .string ((strOf b.toList)), .bool (false)]).cells 29) :: (b9, Obj.cells (Value.agg #[.int .i64 ((cd : Int)), (.slice (some ⟨gH, 0, none⟩) 1 cH), .string (b), .bool (false)]).cells 29) :: ([(gH, .cells hcurH 27)] ++ L))) (fun _ => [(1, .string b), (2, .int .i64 (K : Int)), (3, .int .i64 h0), (9, .pointer (some ⟨b9, 0, none⟩)), (10, .pointer (some ⟨b10, 0, none⟩)), (12, .string (strOf d)), (13, .int .i64 (k : Int)), (65, .bool (decide (d = [] ∨ 0 < k)))]) ?_ ?_
  · -- region 8
    refine CW.region ?_
    refine RW.op1 rfl (runs_move rfl) ?_
    refine RW.op1 rfl (runs_eqS rfl rfl) ?_
    refine RW.op1 rfl (runs_move rfl) ?_
    refine RW.split (t := 62) rfl (fun hb62 => ?_) (fun hb62 => ?_)
    · have hb62p := hb62
      try simp only [decide_eq_true_eq, decide_eq_false_iff_not] at hb62p
      refine RW.off_guard rfl rfl rfl rfl hb62 ?_
      refine RW.off_guard rfl rfl rfl rfl hb62 ?_
      refine RW.op1 rfl (runs_pick_true rfl hb62 rfl) ?_
      refine RW.done ?_
      exact AQ.meet () hst ⟨rfl, rfl, rfl, rfl, rfl, rfl, rfl, boolN (by rw [emptyL] at *; have h9 := @strOf_nil d; simp_all <;> omega), trivial⟩
    · have hb62p := hb62
      try simp only [decide_eq_true_eq, decide_eq_false_iff_not] at hb62p
      refine RW.on_guard rfl rfl rfl rfl hb62 ?_
      refine RW.op1 rfl (runs_move rfl) ?_
      refine RW.on_guard rfl rfl rfl rfl hb62 ?_
      refine RW.op1 rfl (runs_gtr rfl rfl) ?_
      refine RW.op1 rfl (runs_pick_false rfl hb62 rfl) ?_
      refine RW.done ?_
      exact AQ.meet () hst ⟨rfl, rfl, rfl, rfl, rfl, rfl, rfl, boolN (by rw [emptyL] at *; have h9 := @strOf_nil d; simp_all <;> omega), trivial⟩
  · rintro _ w hstn
    clear hst
    have hst := hstn
    clear hstn
    refine AQ.next ?_
    refine CW.cond rfl (fun hc65 => ?_) (fun hc65 => ?_)
    · have hcb65 := hc65
      try simp only [decide_eq_true_eq, decide_eq_false_iff_not] at hc65
      refine CW.skip ?_
      refine AQ.next ?_
      refine CW.seq ?_
      refine CW.block ?_
      -- region 10
      refine CW.region ?_
      refine RW.op1 rfl (runs_move rfl) ?_
      refine RW.op1 rfl (runs_rem rfl rfl (by decide)) ?_
      rw [show ((k : Nat) : Int).tmod 10 = ((k % 10 : Nat) : Int) from rfl]
      refine RW.op1 rfl (runs_add rfl rfl (by omega)) ?_
      refine RW.op1 rfl (runs_convB (by rw [Tryd.underlying3]; rfl) Tryd.underlying5 rfl) ?_
      refine RW.opE rfl (runs_litB (bs := [dg (k % 10)]) rfl Tryd.underlying36 ti5 (by decide) rfl rfl rfl hst) ?_
      rintro u11 w ⟨I11, hI11, hstn, h11⟩
      clear hst
      have hst := hstn
      clear hstn
      replace hM := hM.mono hI11
      replace hT := hT.mono hI11
      replace hle := hle.trans hI11
      have hC : RdB _ u11 [dg (k % 10)] := h11
      refine RW.op1 rfl (RdB.string Tryd.underlying36 Tryd.underlying5 Tryd.underlying9 rfl hC hst) ?_
      refine RW.op1 rfl (runs_move rfl) ?_
      refine RW.op1 rfl (runs_addS rfl rfl (by rw [strOfZ, strOfZ]; simp only [List.length_cons, List.length_nil]; omega)) ?_
      rw [strOf_append, List.singleton_append]
      refine RW.op1 rfl (runs_assign rfl) ?_
      refine RW.done ?_
      refine AQ.block_normal ?_
      refine AQ.next ?_
      -- region 9
      refine CW.region ?_
      refine RW.op1 rfl (runs_move rfl) ?_
      refine RW.op1 rfl (runs_quo rfl rfl (by decide)) ?_
      rw [show IntKind.i64.wrap (((k : Nat) : Int).tdiv 10) = ((k / 10 : Nat) : Int) from by rw [show ((k : Nat) : Int).tdiv 10 = ((k / 10 : Nat) : Int) from rfl, wrap_i64 (n := ((k / 10 : Nat) : Int)) (by omega)]]
      refine RW.op1 rfl (runs_assign rfl) ?_
      refine RW.done ?_
      have hor : d = [] ∨ 0 < k := by simpa using hc65
      exact AQ.again (x := (k, d, I5)) (k / 10, dg (k % 10) :: d, _) ⟨hle, hM, hT, hst, hdr.step hor⟩ ⟨rfl, rfl, rfl, rfl, rfl, rfl, rfl, trivial⟩ (by
        dsimp only
        rw [if_neg (by simp)]
        rcases hor with rfl | h
        · rw [if_pos rfl]; omega
        · omega)
    · have hcb65 := hc65
      try simp only [decide_eq_true_eq, decide_eq_false_iff_not] at hc65
      refine CW.exit ?_
      refine AQ.past_exit ?_
      refine AQ.past_exit ?_
      refine AQ.block_hit ?_
      refine AQ.next ?_
      refine CW.seq ?_
      refine CW.seq ?_
      -- region 11
      refine CW.region ?_
      have hdd := hdr.done (by simpa using hc65)
      subst hdd
      refine RW.op1 rfl (runs_move rfl) ?_
      refine RW.op1 rfl (runs_lenS Tryd.underlying9 rfl) ?_
      refine RW.op1 rfl (runs_gtr rfl rfl) ?_
      refine RW.done ?_
      refine AQ.next ?_
      refine CW.cond rfl (fun hc78 => ?_) (fun hc78 => ?_)
      · have hcb78 := hc78
        try simp only [decide_eq_true_eq, decide_eq_false_iff_not] at hc78
        skip
        refine CW.seq ?_
        -- region 12
        refine CW.region ?_
        refine RW.call rfl call10 rfl rfl (wakes09_spec hst hM) ?_
        rintro e w ⟨rfl, IW, hIW, hstn⟩
        clear hst
        have hst := hstn
        clear hstn
        replace hM := hM.mono hIW
        replace hT := hT.mono hIW
        replace hle := hle.trans hIW
        refine ⟨_, rfl, ?_⟩
        refine RW.op1 rfl (runs_assign rfl) ?_
        refine RW.done ?_
        refine AQ.next ?_
        refine CW.ret ?_
        refine AQ.past_ret ?_
        refine AQ.ret1 rfl rfl ?_
        exact ⟨rfl, _, hle, hst.sub ((List.sublist_append_right _ _).trans ((List.sublist_cons_self _ _).trans (List.sublist_cons_self _ _)))⟩
      · have hcb78 := hc78
        try simp only [decide_eq_true_eq, decide_eq_false_iff_not] at hc78
        rw [strOfZ] at hc78
        have hK6 : K < 1000000 := by
          by_cases h : K < 1000000
          · exact h
          · have := dd_ge 6 K (by omega); omega
        refine CW.skip ?_
        refine AQ.next ?_
        refine CW.seq ?_
        -- region 13
        refine CW.cut (Imm × Value × Own × List UInt8) (fun x w => I.le x.1 ∧ MaxK x.1 ∧ TabK x.1 ∧ x.2.2.2 ∈ nmL ∧ St w0 w x.1 ((b10, Obj.cells (Value.agg #[.int .i64 ((cd : Int)), (.slice A1 bk0.length cA1), .string ((strOf b.toList)), .bool (false)]).cells 29) :: (b9, Obj.cells (Value.agg #[.int .i64 ((cd : Int)), x.2.1, .string (b), .bool (false)]).cells 29) :: (x.2.2.1 ++ L)) ∧ Grow 27 2 x.2.1 2 (((bk1 x.2.2.2 K).map hrowL).flatMap hrow) x.2.2.1) (fun _ => [(1, .string b), (2, .int .i64 (K : Int)), (9, .pointer (some ⟨b9, 0, none⟩)), (10, .pointer (some ⟨b10, 0, none⟩))]) ?_ ?_
        · -- region 13
          refine CW.draw (FSt w0 I5 L) (.q 0 (.q 3 (.q 7 (.fork (.l 1 (.fork (.l 2 (.l 4 (.q 5 (.l 6 (.q 8 (.l 9 (.l 10 (.q 11 (.l 12 .nil))))))))) (.l 4 (.l 2 (.q 5 (.l 6 (.q 8 (.l 9 (.l 10 (.q 11 (.l 12 .nil))))))))))) (.fork (.l 2 (.fork (.l 1 (.l 4 (.q 5 (.l 6 (.q 8 (.l 9 (.l 10 (.q 11 (.l 12 .nil))))))))) (.l 4 (.q 5 (.fork (.l 1 (.l 6 (.q 8 (.l 9 (.l 10 (.q 11 (.l 12 .nil))))))) (.l 6 (.q 8 (.fork (.l 1 (.l 9 (.l 10 (.q 11 (.l 12 .nil))))) (.l 9 (.l 1 (.l 10 (.q 11 (.l 12 .nil))))))))))))) (.l 4 (.fork (.l 1 (.l 2 (.q 5 (.l 6 (.q 8 (.l 9 (.l 10 (.q 11 (.l 12 .nil))))))))) (.l 2 (.q 5 (.fork (.l 1 (.l 6 (.q 8 (.l 9 (.l 10 (.q 11 (.l 12 .nil))))))) (.l 6 (.q 8 (.fork (.l 1 (.l 9 (.l 10 (.q 11 (.l 12 .nil))))) (.l 9 (.l 1 (.l 10 (.q 11 (.l 12 .nil)))))))))))))))))) follows (by kernel_rfl) ⟨_, Imm.le.refl _, hst.draw.sub ((List.sublist_append_right _ _).trans ((List.sublist_cons_self _ _).trans (List.sublist_cons_self _ _)))⟩ ?_
          replace hst := hst.draw
          first
            | refine DRW.q rfl rfl (fun w' hF => runs_fieldAddr0 rfl Tryd.underlying29 rfl ti23 (by decide)) ?_
            | refine DRW.q rfl rfl (fun w' hF => runs_fieldAddr rfl Tryd.underlying29 rfl ti23 (by decide)) ?_
          refine DRW.q rfl rfl (fun w' hF => runs_move rfl) ?_
          refine DRW.q rfl rfl (fun w' hF => runs_move rfl) ?_
          refine DRW.fork ?_ ?_
          · first
              | refine DRW.op1 rfl rfl (runs_load1 sc23 rfl (hst.cell_own (k := 0) rfl rfl)) (FSt.of hst (Imm.le.refl _) (by first | exact (List.sublist_append_right _ _).trans ((List.sublist_cons_self _ _).trans (List.sublist_cons_self _ _)) | exact ((List.sublist_append_right _ _).trans ((List.sublist_cons_self _ _).trans (List.sublist_cons_self _ _))).trans (List.sublist_append_right _ _))) ?_
              | refine DRW.op1 rfl rfl (runs_load1 sc23 rfl (hst.cell_own (k := 1) rfl rfl)) (FSt.of hst (Imm.le.refl _) (by first | exact (List.sublist_append_right _ _).trans ((List.sublist_cons_self _ _).trans (List.sublist_cons_self _ _)) | exact ((List.sublist_append_right _ _).trans ((List.sublist_cons_self _ _).trans (List.sublist_cons_self _ _))).trans (List.sublist_append_right _ _))) ?_
              | refine DRW.op1 rfl rfl (runs_load1 sc23 rfl (hst.cell_own (k := 2) rfl rfl)) (FSt.of hst (Imm.le.refl _) (by first | exact (List.sublist_append_right _ _).trans ((List.sublist_cons_self _ _).trans (List.sublist_cons_self _ _)) | exact ((List.sublist_append_right _ _).trans ((List.sublist_cons_self _ _).trans (List.sublist_cons_self _ _))).trans (List.sublist_append_right _ _))) ?_
            refine DRW.fork ?_ ?_
            · refine DRW.opE rfl rfl (runs_lit1R Tryd.underlying24 ti9 (by decide) rfl rfl rfl (by simp [Value.oneCell']) hst) ?_
              rintro u13 w ⟨I13, hI13, hstn, h13⟩
              clear hst
              have hst := hstn
              clear hstn
              replace hM := hM.mono hI13
              replace hT := hT.mono hI13
              replace hle := hle.trans hI13
              refine ⟨FSt.of hst hI13 (by first | exact (List.sublist_append_right _ _).trans ((List.sublist_cons_self _ _).trans (List.sublist_cons_self _ _)) | exact ((List.sublist_append_right _ _).trans ((List.sublist_cons_self _ _).trans (List.sublist_cons_self _ _))).trans (List.sublist_append_right _ _)), ?_⟩
              have hN : RdS _ u13 (nmL.map strOf) := h13
              refine DRW.call rfl rfl call8 rfl rfl (within_spec hst (v := h0) (n := 3) hh0 (by unfold i64ok; decide)) ?_
              rintro e w ⟨rfl, hstn⟩
              clear hst
              have hst := hstn
              clear hstn
              have hj0 := (within_range h0 3).1
              have hj1 := (within_range h0 3).2 (by decide)
              generalize within h0 3 = j at hj0 hj1 ⊢
              obtain ⟨nm, hnm, hsn⟩ := sat_of (l := nmL) hj0 hj1
              refine ⟨_, rfl, FSt.of hst hI13 (by first | exact (List.sublist_append_right _ _).trans ((List.sublist_cons_self _ _).trans (List.sublist_cons_self _ _)) | exact ((List.sublist_append_right _ _).trans ((List.sublist_cons_self _ _).trans (List.sublist_cons_self _ _))).trans (List.sublist_append_right _ _)), ?_⟩
              refine DRW.q rfl rfl (fun w' hF => RdL.indexAddr Tryd.underlying24 ti9 (by decide) rfl rfl hN (by show 0 ≤ j ∧ j < 3; omega)) ?_
              refine DRW.op1 rfl rfl (runs_load1 (v := .string (strOf nm)) sc9 rfl (hst.cell_imm (by rw [← hsn]; exact RdS.at hN (by omega) (by show j < 3; omega)))) (FSt.of hst hI13 (by first | exact (List.sublist_append_right _ _).trans ((List.sublist_cons_self _ _).trans (List.sublist_cons_self _ _)) | exact ((List.sublist_append_right _ _).trans ((List.sublist_cons_self _ _).trans (List.sublist_cons_self _ _))).trans (List.sublist_append_right _ _))) ?_
              refine DRW.q rfl rfl (fun w' hF => runs_buildF (cells := [_, _]) bz27 rfl rfl rfl rfl rfl) ?_
              refine DRW.opE rfl rfl (runs_litF (xs := [.agg #[_, _]]) Tryd.underlying23 ti27 (by decide) rfl rfl rfl rfl rfl hst (by decide)) ?_
              rintro u15 w ⟨Lv15, hstn, hg15⟩
              clear hst
              have hst := hstn
              clear hstn
              refine ⟨FSt.of hst hI13 (by first | exact (List.sublist_append_right _ _).trans ((List.sublist_cons_self _ _).trans (List.sublist_cons_self _ _)) | exact ((List.sublist_append_right _ _).trans ((List.sublist_cons_self _ _).trans (List.sublist_cons_self _ _))).trans (List.sublist_append_right _ _)), ?_⟩
              obtain ⟨J15, hJ15, hstn, h15⟩ := Grow.freeze hg15 hst
              clear hst
              have hst := hstn
              clear hstn
              replace hM := hM.mono hJ15
              replace hT := hT.mono hJ15
              replace h13 := h13.mono hJ15
              replace hN := hN.mono hJ15
              replace hle := hle.trans hJ15
              try simp only [List.nil_append] at h15
              replace h15 : RdL _ 2 u15 1 (hrow (hrowL (nm, Lib.decDigits K))) := h15
              have hL := h15
              refine DRW.opE rfl rfl (runs_appendRA [_, _] Tryd.underlying23 ti27 rfl (by decide) rfl rfl hst hgH hL (by decide) (by decide)) ?_
              rintro uG w ⟨LvG, hstn, hgG0⟩
              clear hst
              have hst := hstn
              clear hstn
              refine ⟨FSt.of hst (hI13.trans hJ15) (by first | exact (List.sublist_append_right _ _).trans ((List.sublist_cons_self _ _).trans (List.sublist_cons_self _ _)) | exact ((List.sublist_append_right _ _).trans ((List.sublist_cons_self _ _).trans (List.sublist_cons_self _ _))).trans (List.sublist_append_right _ _)), ?_⟩
              have hgG : Grow 27 2 uG 2 (((bk1 nm K).map hrowL).flatMap hrow) LvG := hgG0
              replace hst : St w0 _ _ ((b10, Obj.cells (Value.agg #[.int .i64 ((cd : Int)), (.slice A1 bk0.length cA1), .string ((strOf b.toList)), .bool (false)]).cells 29) :: (b9, Obj.cells (Value.agg #[.int .i64 ((cd : Int)), (.slice (some ⟨gH, 0, none⟩) 1 cH), .string (b), .bool (false)]).cells 29) :: (LvG ++ L)) := hst
              first
                | refine DRW.q rfl rfl (fun w' hF => runs_fieldAddr0 rfl Tryd.underlying29 rfl ti23 (by decide)) ?_
                | refine DRW.q rfl rfl (fun w' hF => runs_fieldAddr rfl Tryd.underlying29 rfl ti23 (by decide)) ?_
              refine DRW.opE0 rfl (runs_store1P ti23 rfl rfl hst (k := 1) rfl rfl (NoFz.zero _) hgG.one) ?_
              rintro w hstn
              clear hst
              have hst := hstn
              clear hstn
              try simp only [List.set_cons_zero, List.set_cons_succ] at hst
              refine ⟨FSt.of hst (hI13.trans hJ15) (by first | exact (List.sublist_append_right _ _).trans ((List.sublist_cons_self _ _).trans (List.sublist_cons_self _ _)) | exact ((List.sublist_append_right _ _).trans ((List.sublist_cons_self _ _).trans (List.sublist_cons_self _ _))).trans (List.sublist_append_right _ _)), ?_⟩
              refine DRW.done ?_
              exact AQ.meet (_, _, _, nm) ⟨hle, hM, hT, hnm, hst, hgG⟩ ⟨rfl, rfl, rfl, rfl, trivial⟩
            refine DRW.call rfl rfl call8 rfl rfl (within_spec hst (v := h0) (n := 3) hh0 (by unfold i64ok; decide)) ?_
            rintro e w ⟨rfl, hstn⟩
            clear hst
            have hst := hstn
            clear hstn
            have hj0 := (within_range h0 3).1
            have hj1 := (within_range h0 3).2 (by decide)
            generalize within h0 3 = j at hj0 hj1 ⊢
            obtain ⟨nm, hnm, hsn⟩ := sat_of (l := nmL) hj0 hj1
            refine ⟨_, rfl, FSt.of hst (Imm.le.refl _) (by first | exact (List.sublist_append_right _ _).trans ((List.sublist_cons_self _ _).trans (List.sublist_cons_self _ _)) | exact ((List.sublist_append_right _ _).trans ((List.sublist_cons_self _ _).trans (List.sublist_cons_self _ _))).trans (List.sublist_append_right _ _)), ?_⟩
            refine DRW.opE rfl rfl (runs_lit1R Tryd.underlying24 ti9 (by decide) rfl rfl rfl (by simp [Value.oneCell']) hst) ?_
            rintro u19 w ⟨I19, hI19, hstn, h19⟩
            clear hst
            have hst := hstn
            clear hstn
            replace hM := hM.mono hI19
            replace hT := hT.mono hI19
            replace hle := hle.trans hI19
            refine ⟨FSt.of hst hI19 (by first | exact (List.sublist_append_right _ _).trans ((List.sublist_cons_self _ _).trans (List.sublist_cons_self _ _)) | exact ((List.sublist_append_right _ _).trans ((List.sublist_cons_self _ _).trans (List.sublist_cons_self _ _))).trans (List.sublist_append_right _ _)), ?_⟩
            have hN : RdS _ u19 (nmL.map strOf) := h19
            refine DRW.q rfl rfl (fun w' hF => RdL.indexAddr Tryd.underlying24 ti9 (by decide) rfl rfl hN (by show 0 ≤ j ∧ j < 3; omega)) ?_
            refine DRW.op1 rfl rfl (runs_load1 (v := .string (strOf nm)) sc9 rfl (hst.cell_imm (by rw [← hsn]; exact RdS.at hN (by omega) (by show j < 3; omega)))) (FSt.of hst hI19 (by first | exact (List.sublist_append_right _ _).trans ((List.sublist_cons_self _ _).trans (List.sublist_cons_self _ _)) | exact ((List.sublist_append_right _ _).trans ((List.sublist_cons_self _ _).trans (List.sublist_cons_self _ _))).trans (List.sublist_append_right _ _))) ?_
            refine DRW.q rfl rfl (fun w' hF => runs_buildF (cells := [_, _]) bz27 rfl rfl rfl rfl rfl) ?_
            refine DRW.opE rfl rfl (runs_litF (xs := [.agg #[_, _]]) Tryd.underlying23 ti27 (by decide) rfl rfl rfl rfl rfl hst (by decide)) ?_
            rintro u20 w ⟨Lv20, hstn, hg20⟩
            clear hst
            have hst := hstn
            clear hstn
            refine ⟨FSt.of hst hI19 (by first | exact (List.sublist_append_right _ _).trans ((List.sublist_cons_self _ _).trans (List.sublist_cons_self _ _)) | exact ((List.sublist_append_right _ _).trans ((List.sublist_cons_self _ _).trans (List.sublist_cons_self _ _))).trans (List.sublist_append_right _ _)), ?_⟩
            obtain ⟨J20, hJ20, hstn, h20⟩ := Grow.freeze hg20 hst
            clear hst
            have hst := hstn
            clear hstn
            replace hM := hM.mono hJ20
            replace hT := hT.mono hJ20
            replace h19 := h19.mono hJ20
            replace hN := hN.mono hJ20
            replace hle := hle.trans hJ20
            try simp only [List.nil_append] at h20
            replace h20 : RdL _ 2 u20 1 (hrow (hrowL (nm, Lib.decDigits K))) := h20
            have hL := h20
            refine DRW.opE rfl rfl (runs_appendRA [_, _] Tryd.underlying23 ti27 rfl (by decide) rfl rfl hst hgH hL (by decide) (by decide)) ?_
            rintro uG w ⟨LvG, hstn, hgG0⟩
            clear hst
            have hst := hstn
            clear hstn
            refine ⟨FSt.of hst (hI19.trans hJ20) (by first | exact (List.sublist_append_right _ _).trans ((List.sublist_cons_self _ _).trans (List.sublist_cons_self _ _)) | exact ((List.sublist_append_right _ _).trans ((List.sublist_cons_self _ _).trans (List.sublist_cons_self _ _))).trans (List.sublist_append_right _ _)), ?_⟩
            have hgG : Grow 27 2 uG 2 (((bk1 nm K).map hrowL).flatMap hrow) LvG := hgG0
            replace hst : St w0 _ _ ((b10, Obj.cells (Value.agg #[.int .i64 ((cd : Int)), (.slice A1 bk0.length cA1), .string ((strOf b.toList)), .bool (false)]).cells 29) :: (b9, Obj.cells (Value.agg #[.int .i64 ((cd : Int)), (.slice (some ⟨gH, 0, none⟩) 1 cH), .string (b), .bool (false)]).cells 29) :: (LvG ++ L)) := hst
            first
              | refine DRW.q rfl rfl (fun w' hF => runs_fieldAddr0 rfl Tryd.underlying29 rfl ti23 (by decide)) ?_
              | refine DRW.q rfl rfl (fun w' hF => runs_fieldAddr rfl Tryd.underlying29 rfl ti23 (by decide)) ?_
            refine DRW.opE0 rfl (runs_store1P ti23 rfl rfl hst (k := 1) rfl rfl (NoFz.zero _) hgG.one) ?_
            rintro w hstn
            clear hst
            have hst := hstn
            clear hstn
            try simp only [List.set_cons_zero, List.set_cons_succ] at hst
            refine ⟨FSt.of hst (hI19.trans hJ20) (by first | exact (List.sublist_append_right _ _).trans ((List.sublist_cons_self _ _).trans (List.sublist_cons_self _ _)) | exact ((List.sublist_append_right _ _).trans ((List.sublist_cons_self _ _).trans (List.sublist_cons_self _ _))).trans (List.sublist_append_right _ _)), ?_⟩
            refine DRW.done ?_
            exact AQ.meet (_, _, _, nm) ⟨hle, hM, hT, hnm, hst, hgG⟩ ⟨rfl, rfl, rfl, rfl, trivial⟩
          refine DRW.fork ?_ ?_
          · refine DRW.opE rfl rfl (runs_lit1R Tryd.underlying24 ti9 (by decide) rfl rfl rfl (by simp [Value.oneCell']) hst) ?_
            rintro u23 w ⟨I23, hI23, hstn, h23⟩
            clear hst
            have hst := hstn
            clear hstn
            replace hM := hM.mono hI23
            replace hT := hT.mono hI23
            replace hle := hle.trans hI23
            refine ⟨FSt.of hst hI23 (by first | exact (List.sublist_append_right _ _).trans ((List.sublist_cons_self _ _).trans (List.sublist_cons_self _ _)) | exact ((List.sublist_append_right _ _).trans ((List.sublist_cons_self _ _).trans (List.sublist_cons_self _ _))).trans (List.sublist_append_right _ _)), ?_⟩
            have hN : RdS _ u23 (nmL.map strOf) := h23
            refine DRW.fork ?_ ?_
            · first
                | refine DRW.op1 rfl rfl (runs_load1 sc23 rfl (hst.cell_own (k := 0) rfl rfl)) (FSt.of hst hI23 (by first | exact (List.sublist_append_right _ _).trans ((List.sublist_cons_self _ _).trans (List.sublist_cons_self _ _)) | exact ((List.sublist_append_right _ _).trans ((List.sublist_cons_self _ _).trans (List.sublist_cons_self _ _))).trans (List.sublist_append_right _ _))) ?_
                | refine DRW.op1 rfl rfl (runs_load1 sc23 rfl (hst.cell_own (k := 1) rfl rfl)) (FSt.of hst hI23 (by first | exact (List.sublist_append_right _ _).trans ((List.sublist_cons_self _ _).trans (List.sublist_cons_self _ _)) | exact ((List.sublist_append_right _ _).trans ((List.sublist_cons_self _ _).trans (List.sublist_cons_self _ _))).trans (List.sublist_append_right _ _))) ?_
                | refine DRW.op1 rfl rfl (runs_load1 sc23 rfl (hst.cell_own (k := 2) rfl rfl)) (FSt.of hst hI23 (by first | exact (List.sublist_append_right _ _).trans ((List.sublist_cons_self _ _).trans (List.sublist_cons_self _ _)) | exact ((List.sublist_append_right _ _).trans ((List.sublist_cons_self _ _).trans (List.sublist_cons_self _ _))).trans (List.sublist_append_right _ _))) ?_
              refine DRW.call rfl rfl call8 rfl rfl (within_spec hst (v := h0) (n := 3) hh0 (by unfold i64ok; decide)) ?_
              rintro e w ⟨rfl, hstn⟩
              clear hst
              have hst := hstn
              clear hstn
              have hj0 := (within_range h0 3).1
              have hj1 := (within_range h0 3).2 (by decide)
              generalize within h0 3 = j at hj0 hj1 ⊢
              obtain ⟨nm, hnm, hsn⟩ := sat_of (l := nmL) hj0 hj1
              refine ⟨_, rfl, FSt.of hst hI23 (by first | exact (List.sublist_append_right _ _).trans ((List.sublist_cons_self _ _).trans (List.sublist_cons_self _ _)) | exact ((List.sublist_append_right _ _).trans ((List.sublist_cons_self _ _).trans (List.sublist_cons_self _ _))).trans (List.sublist_append_right _ _)), ?_⟩
              refine DRW.q rfl rfl (fun w' hF => RdL.indexAddr Tryd.underlying24 ti9 (by decide) rfl rfl hN (by show 0 ≤ j ∧ j < 3; omega)) ?_
              refine DRW.op1 rfl rfl (runs_load1 (v := .string (strOf nm)) sc9 rfl (hst.cell_imm (by rw [← hsn]; exact RdS.at hN (by omega) (by show j < 3; omega)))) (FSt.of hst hI23 (by first | exact (List.sublist_append_right _ _).trans ((List.sublist_cons_self _ _).trans (List.sublist_cons_self _ _)) | exact ((List.sublist_append_right _ _).trans ((List.sublist_cons_self _ _).trans (List.sublist_cons_self _ _))).trans (List.sublist_append_right _ _))) ?_
              refine DRW.q rfl rfl (fun w' hF => runs_buildF (cells := [_, _]) bz27 rfl rfl rfl rfl rfl) ?_
              refine DRW.opE rfl rfl (runs_litF (xs := [.agg #[_, _]]) Tryd.underlying23 ti27 (by decide) rfl rfl rfl rfl rfl hst (by decide)) ?_
              rintro u25 w ⟨Lv25, hstn, hg25⟩
              clear hst
              have hst := hstn
              clear hstn
              refine ⟨FSt.of hst hI23 (by first | exact (List.sublist_append_right _ _).trans ((List.sublist_cons_self _ _).trans (List.sublist_cons_self _ _)) | exact ((List.sublist_append_right _ _).trans ((List.sublist_cons_self _ _).trans (List.sublist_cons_self _ _))).trans (List.sublist_append_right _ _)), ?_⟩
              obtain ⟨J25, hJ25, hstn, h25⟩ := Grow.freeze hg25 hst
              clear hst
              have hst := hstn
              clear hstn
              replace hM := hM.mono hJ25
              replace hT := hT.mono hJ25
              replace h23 := h23.mono hJ25
              replace hN := hN.mono hJ25
              replace hle := hle.trans hJ25
              try simp only [List.nil_append] at h25
              replace h25 : RdL _ 2 u25 1 (hrow (hrowL (nm, Lib.decDigits K))) := h25
              have hL := h25
              refine DRW.opE rfl rfl (runs_appendRA [_, _] Tryd.underlying23 ti27 rfl (by decide) rfl rfl hst hgH hL (by decide) (by decide)) ?_
              rintro uG w ⟨LvG, hstn, hgG0⟩
              clear hst
              have hst := hstn
              clear hstn
              refine ⟨FSt.of hst (hI23.trans hJ25) (by first | exact (List.sublist_append_right _ _).trans ((List.sublist_cons_self _ _).trans (List.sublist_cons_self _ _)) | exact ((List.sublist_append_right _ _).trans ((List.sublist_cons_self _ _).trans (List.sublist_cons_self _ _))).trans (List.sublist_append_right _ _)), ?_⟩
              have hgG : Grow 27 2 uG 2 (((bk1 nm K).map hrowL).flatMap hrow) LvG := hgG0
              replace hst : St w0 _ _ ((b10, Obj.cells (Value.agg #[.int .i64 ((cd : Int)), (.slice A1 bk0.length cA1), .string ((strOf b.toList)), .bool (false)]).cells 29) :: (b9, Obj.cells (Value.agg #[.int .i64 ((cd : Int)), (.slice (some ⟨gH, 0, none⟩) 1 cH), .string (b), .bool (false)]).cells 29) :: (LvG ++ L)) := hst
              first
                | refine DRW.q rfl rfl (fun w' hF => runs_fieldAddr0 rfl Tryd.underlying29 rfl ti23 (by decide)) ?_
                | refine DRW.q rfl rfl (fun w' hF => runs_fieldAddr rfl Tryd.underlying29 rfl ti23 (by decide)) ?_
              refine DRW.opE0 rfl (runs_store1P ti23 rfl rfl hst (k := 1) rfl rfl (NoFz.zero _) hgG.one) ?_
              rintro w hstn
              clear hst
              have hst := hstn
              clear hstn
              try simp only [List.set_cons_zero, List.set_cons_succ] at hst
              refine ⟨FSt.of hst (hI23.trans hJ25) (by first | exact (List.sublist_append_right _ _).trans ((List.sublist_cons_self _ _).trans (List.sublist_cons_self _ _)) | exact ((List.sublist_append_right _ _).trans ((List.sublist_cons_self _ _).trans (List.sublist_cons_self _ _))).trans (List.sublist_append_right _ _)), ?_⟩
              refine DRW.done ?_
              exact AQ.meet (_, _, _, nm) ⟨hle, hM, hT, hnm, hst, hgG⟩ ⟨rfl, rfl, rfl, rfl, trivial⟩
            refine DRW.call rfl rfl call8 rfl rfl (within_spec hst (v := h0) (n := 3) hh0 (by unfold i64ok; decide)) ?_
            rintro e w ⟨rfl, hstn⟩
            clear hst
            have hst := hstn
            clear hstn
            have hj0 := (within_range h0 3).1
            have hj1 := (within_range h0 3).2 (by decide)
            generalize within h0 3 = j at hj0 hj1 ⊢
            obtain ⟨nm, hnm, hsn⟩ := sat_of (l := nmL) hj0 hj1
            refine ⟨_, rfl, FSt.of hst hI23 (by first | exact (List.sublist_append_right _ _).trans ((List.sublist_cons_self _ _).trans (List.sublist_cons_self _ _)) | exact ((List.sublist_append_right _ _).trans ((List.sublist_cons_self _ _).trans (List.sublist_cons_self _ _))).trans (List.sublist_append_right _ _)), ?_⟩
            refine DRW.q rfl rfl (fun w' hF => RdL.indexAddr Tryd.underlying24 ti9 (by decide) rfl rfl hN (by show 0 ≤ j ∧ j < 3; omega)) ?_
            refine DRW.fork ?_ ?_
            · first
                | refine DRW.op1 rfl rfl (runs_load1 sc23 rfl (hst.cell_own (k := 0) rfl rfl)) (FSt.of hst hI23 (by first | exact (List.sublist_append_right _ _).trans ((List.sublist_cons_self _ _).trans (List.sublist_cons_self _ _)) | exact ((List.sublist_append_right _ _).trans ((List.sublist_cons_self _ _).trans (List.sublist_cons_self _ _))).trans (List.sublist_append_right _ _))) ?_
                | refine DRW.op1 rfl rfl (runs_load1 sc23 rfl (hst.cell_own (k := 1) rfl rfl)) (FSt.of hst hI23 (by first | exact (List.sublist_append_right _ _).trans ((List.sublist_cons_self _ _).trans (List.sublist_cons_self _ _)) | exact ((List.sublist_append_right _ _).trans ((List.sublist_cons_self _ _).trans (List.sublist_cons_self _ _))).trans (List.sublist_append_right _ _))) ?_
                | refine DRW.op1 rfl rfl (runs_load1 sc23 rfl (hst.cell_own (k := 2) rfl rfl)) (FSt.of hst hI23 (by first | exact (List.sublist_append_right _ _).trans ((List.sublist_cons_self _ _).trans (List.sublist_cons_self _ _)) | exact ((List.sublist_append_right _ _).trans ((List.sublist_cons_self _ _).trans (List.sublist_cons_self _ _))).trans (List.sublist_append_right _ _))) ?_
              refine DRW.op1 rfl rfl (runs_load1 (v := .string (strOf nm)) sc9 rfl (hst.cell_imm (by rw [← hsn]; exact RdS.at hN (by omega) (by show j < 3; omega)))) (FSt.of hst hI23 (by first | exact (List.sublist_append_right _ _).trans ((List.sublist_cons_self _ _).trans (List.sublist_cons_self _ _)) | exact ((List.sublist_append_right _ _).trans ((List.sublist_cons_self _ _).trans (List.sublist_cons_self _ _))).trans (List.sublist_append_right _ _))) ?_
              refine DRW.q rfl rfl (fun w' hF => runs_buildF (cells := [_, _]) bz27 rfl rfl rfl rfl rfl) ?_
              refine DRW.opE rfl rfl (runs_litF (xs := [.agg #[_, _]]) Tryd.underlying23 ti27 (by decide) rfl rfl rfl rfl rfl hst (by decide)) ?_
              rintro u29 w ⟨Lv29, hstn, hg29⟩
              clear hst
              have hst := hstn
              clear hstn
              refine ⟨FSt.of hst hI23 (by first | exact (List.sublist_append_right _ _).trans ((List.sublist_cons_self _ _).trans (List.sublist_cons_self _ _)) | exact ((List.sublist_append_right _ _).trans ((List.sublist_cons_self _ _).trans (List.sublist_cons_self _ _))).trans (List.sublist_append_right _ _)), ?_⟩
              obtain ⟨J29, hJ29, hstn, h29⟩ := Grow.freeze hg29 hst
              clear hst
              have hst := hstn
              clear hstn
              replace hM := hM.mono hJ29
              replace hT := hT.mono hJ29
              replace h23 := h23.mono hJ29
              replace hN := hN.mono hJ29
              replace hle := hle.trans hJ29
              try simp only [List.nil_append] at h29
              replace h29 : RdL _ 2 u29 1 (hrow (hrowL (nm, Lib.decDigits K))) := h29
              have hL := h29
              refine DRW.opE rfl rfl (runs_appendRA [_, _] Tryd.underlying23 ti27 rfl (by decide) rfl rfl hst hgH hL (by decide) (by decide)) ?_
              rintro uG w ⟨LvG, hstn, hgG0⟩
              clear hst
              have hst := hstn
              clear hstn
              refine ⟨FSt.of hst (hI23.trans hJ29) (by first | exact (List.sublist_append_right _ _).trans ((List.sublist_cons_self _ _).trans (List.sublist_cons_self _ _)) | exact ((List.sublist_append_right _ _).trans ((List.sublist_cons_self _ _).trans (List.sublist_cons_self _ _))).trans (List.sublist_append_right _ _)), ?_⟩
              have hgG : Grow 27 2 uG 2 (((bk1 nm K).map hrowL).flatMap hrow) LvG := hgG0
              replace hst : St w0 _ _ ((b10, Obj.cells (Value.agg #[.int .i64 ((cd : Int)), (.slice A1 bk0.length cA1), .string ((strOf b.toList)), .bool (false)]).cells 29) :: (b9, Obj.cells (Value.agg #[.int .i64 ((cd : Int)), (.slice (some ⟨gH, 0, none⟩) 1 cH), .string (b), .bool (false)]).cells 29) :: (LvG ++ L)) := hst
              first
                | refine DRW.q rfl rfl (fun w' hF => runs_fieldAddr0 rfl Tryd.underlying29 rfl ti23 (by decide)) ?_
                | refine DRW.q rfl rfl (fun w' hF => runs_fieldAddr rfl Tryd.underlying29 rfl ti23 (by decide)) ?_
              refine DRW.opE0 rfl (runs_store1P ti23 rfl rfl hst (k := 1) rfl rfl (NoFz.zero _) hgG.one) ?_
              rintro w hstn
              clear hst
              have hst := hstn
              clear hstn
              try simp only [List.set_cons_zero, List.set_cons_succ] at hst
              refine ⟨FSt.of hst (hI23.trans hJ29) (by first | exact (List.sublist_append_right _ _).trans ((List.sublist_cons_self _ _).trans (List.sublist_cons_self _ _)) | exact ((List.sublist_append_right _ _).trans ((List.sublist_cons_self _ _).trans (List.sublist_cons_self _ _))).trans (List.sublist_append_right _ _)), ?_⟩
              refine DRW.done ?_
              exact AQ.meet (_, _, _, nm) ⟨hle, hM, hT, hnm, hst, hgG⟩ ⟨rfl, rfl, rfl, rfl, trivial⟩
            refine DRW.op1 rfl rfl (runs_load1 (v := .string (strOf nm)) sc9 rfl (hst.cell_imm (by rw [← hsn]; exact RdS.at hN (by omega) (by show j < 3; omega)))) (FSt.of hst hI23 (by first | exact (List.sublist_append_right _ _).trans ((List.sublist_cons_self _ _).trans (List.sublist_cons_self _ _)) | exact ((List.sublist_append_right _ _).trans ((List.sublist_cons_self _ _).trans (List.sublist_cons_self _ _))).trans (List.sublist_append_right _ _))) ?_
            refine DRW.q rfl rfl (fun w' hF => runs_buildF (cells := [_, _]) bz27 rfl rfl rfl rfl rfl) ?_
            refine DRW.fork ?_ ?_
            · first
                | refine DRW.op1 rfl rfl (runs_load1 sc23 rfl (hst.cell_own (k := 0) rfl rfl)) (FSt.of hst hI23 (by first | exact (List.sublist_append_right _ _).trans ((List.sublist_cons_self _ _).trans (List.sublist_cons_self _ _)) | exact ((List.sublist_append_right _ _).trans ((List.sublist_cons_self _ _).trans (List.sublist_cons_self _ _))).trans (List.sublist_append_right _ _))) ?_
                | refine DRW.op1 rfl rfl (runs_load1 sc23 rfl (hst.cell_own (k := 1) rfl rfl)) (FSt.of hst hI23 (by first | exact (List.sublist_append_right _ _).trans ((List.sublist_cons_self _ _).trans (List.sublist_cons_self _ _)) | exact ((List.sublist_append_right _ _).trans ((List.sublist_cons_self _ _).trans (List.sublist_cons_self _ _))).trans (List.sublist_append_right _ _))) ?_
                | refine DRW.op1 rfl rfl (runs_load1 sc23 rfl (hst.cell_own (k := 2) rfl rfl)) (FSt.of hst hI23 (by first | exact (List.sublist_append_right _ _).trans ((List.sublist_cons_self _ _).trans (List.sublist_cons_self _ _)) | exact ((List.sublist_append_right _ _).trans ((List.sublist_cons_self _ _).trans (List.sublist_cons_self _ _))).trans (List.sublist_append_right _ _))) ?_
              refine DRW.opE rfl rfl (runs_litF (xs := [.agg #[_, _]]) Tryd.underlying23 ti27 (by decide) rfl rfl rfl rfl rfl hst (by decide)) ?_
              rintro u32 w ⟨Lv32, hstn, hg32⟩
              clear hst
              have hst := hstn
              clear hstn
              refine ⟨FSt.of hst hI23 (by first | exact (List.sublist_append_right _ _).trans ((List.sublist_cons_self _ _).trans (List.sublist_cons_self _ _)) | exact ((List.sublist_append_right _ _).trans ((List.sublist_cons_self _ _).trans (List.sublist_cons_self _ _))).trans (List.sublist_append_right _ _)), ?_⟩
              obtain ⟨J32, hJ32, hstn, h32⟩ := Grow.freeze hg32 hst
              clear hst
              have hst := hstn
              clear hstn
              replace hM := hM.mono hJ32
              replace hT := hT.mono hJ32
              replace h23 := h23.mono hJ32
              replace hN := hN.mono hJ32
              replace hle := hle.trans hJ32
              try simp only [List.nil_append] at h32
              replace h32 : RdL _ 2 u32 1 (hrow (hrowL (nm, Lib.decDigits K))) := h32
              have hL := h32
              refine DRW.opE rfl rfl (runs_appendRA [_, _] Tryd.underlying23 ti27 rfl (by decide) rfl rfl hst hgH hL (by decide) (by decide)) ?_
              rintro uG w ⟨LvG, hstn, hgG0⟩
              clear hst
              have hst := hstn
              clear hstn
              refine ⟨FSt.of hst (hI23.trans hJ32) (by first | exact (List.sublist_append_right _ _).trans ((List.sublist_cons_self _ _).trans (List.sublist_cons_self _ _)) | exact ((List.sublist_append_right _ _).trans ((List.sublist_cons_self _ _).trans (List.sublist_cons_self _ _))).trans (List.sublist_append_right _ _)), ?_⟩
              have hgG : Grow 27 2 uG 2 (((bk1 nm K).map hrowL).flatMap hrow) LvG := hgG0
              replace hst : St w0 _ _ ((b10, Obj.cells (Value.agg #[.int .i64 ((cd : Int)), (.slice A1 bk0.length cA1), .string ((strOf b.toList)), .bool (false)]).cells 29) :: (b9, Obj.cells (Value.agg #[.int .i64 ((cd : Int)), (.slice (some ⟨gH, 0, none⟩) 1 cH), .string (b), .bool (false)]).cells 29) :: (LvG ++ L)) := hst
              first
                | refine DRW.q rfl rfl (fun w' hF => runs_fieldAddr0 rfl Tryd.underlying29 rfl ti23 (by decide)) ?_
                | refine DRW.q rfl rfl (fun w' hF => runs_fieldAddr rfl Tryd.underlying29 rfl ti23 (by decide)) ?_
              refine DRW.opE0 rfl (runs_store1P ti23 rfl rfl hst (k := 1) rfl rfl (NoFz.zero _) hgG.one) ?_
              rintro w hstn
              clear hst
              have hst := hstn
              clear hstn
              try simp only [List.set_cons_zero, List.set_cons_succ] at hst
              refine ⟨FSt.of hst (hI23.trans hJ32) (by first | exact (List.sublist_append_right _ _).trans ((List.sublist_cons_self _ _).trans (List.sublist_cons_self _ _)) | exact ((List.sublist_append_right _ _).trans ((List.sublist_cons_self _ _).trans (List.sublist_cons_self _ _))).trans (List.sublist_append_right _ _)), ?_⟩
              refine DRW.done ?_
              exact AQ.meet (_, _, _, nm) ⟨hle, hM, hT, hnm, hst, hgG⟩ ⟨rfl, rfl, rfl, rfl, trivial⟩
            refine DRW.opE rfl rfl (runs_litF (xs := [.agg #[_, _]]) Tryd.underlying23 ti27 (by decide) rfl rfl rfl rfl rfl hst (by decide)) ?_
            rintro u35 w ⟨Lv35, hstn, hg35⟩
            clear hst
            have hst := hstn
            clear hstn
            refine ⟨FSt.of hst hI23 (by first | exact (List.sublist_append_right _ _).trans ((List.sublist_cons_self _ _).trans (List.sublist_cons_self _ _)) | exact ((List.sublist_append_right _ _).trans ((List.sublist_cons_self _ _).trans (List.sublist_cons_self _ _))).trans (List.sublist_append_right _ _)), ?_⟩
            obtain ⟨J35, hJ35, hstn, h35⟩ := Grow.freeze hg35 hst
            clear hst
            have hst := hstn
            clear hstn
            replace hM := hM.mono hJ35
            replace hT := hT.mono hJ35
            replace h23 := h23.mono hJ35
            replace hN := hN.mono hJ35
            replace hle := hle.trans hJ35
            try simp only [List.nil_append] at h35
            replace h35 : RdL _ 2 u35 1 (hrow (hrowL (nm, Lib.decDigits K))) := h35
            have hL := h35
            first
              | refine DRW.op1 rfl rfl (runs_load1 sc23 rfl (hst.cell_own (k := 0) rfl rfl)) (FSt.of hst (hI23.trans hJ35) (by first | exact (List.sublist_append_right _ _).trans ((List.sublist_cons_self _ _).trans (List.sublist_cons_self _ _)) | exact ((List.sublist_append_right _ _).trans ((List.sublist_cons_self _ _).trans (List.sublist_cons_self _ _))).trans (List.sublist_append_right _ _))) ?_
              | refine DRW.op1 rfl rfl (runs_load1 sc23 rfl (hst.cell_own (k := 1) rfl rfl)) (FSt.of hst (hI23.trans hJ35) (by first | exact (List.sublist_append_right _ _).trans ((List.sublist_cons_self _ _).trans (List.sublist_cons_self _ _)) | exact ((List.sublist_append_right _ _).trans ((List.sublist_cons_self _ _).trans (List.sublist_cons_self _ _))).trans (List.sublist_append_right _ _))) ?_
              | refine DRW.op1 rfl rfl (runs_load1 sc23 rfl (hst.cell_own (k := 2) rfl rfl)) (FSt.of hst (hI23.trans hJ35) (by first | exact (List.sublist_append_right _ _).trans ((List.sublist_cons_self _ _).trans (List.sublist_cons_self _ _)) | exact ((List.sublist_append_right _ _).trans ((List.sublist_cons_self _ _).trans (List.sublist_cons_self _ _))).trans (List.sublist_append_right _ _))) ?_
            refine DRW.opE rfl rfl (runs_appendRA [_, _] Tryd.underlying23 ti27 rfl (by decide) rfl rfl hst hgH hL (by decide) (by decide)) ?_
            rintro uG w ⟨LvG, hstn, hgG0⟩
            clear hst
            have hst := hstn
            clear hstn
            refine ⟨FSt.of hst (hI23.trans hJ35) (by first | exact (List.sublist_append_right _ _).trans ((List.sublist_cons_self _ _).trans (List.sublist_cons_self _ _)) | exact ((List.sublist_append_right _ _).trans ((List.sublist_cons_self _ _).trans (List.sublist_cons_self _ _))).trans (List.sublist_append_right _ _)), ?_⟩
            have hgG : Grow 27 2 uG 2 (((bk1 nm K).map hrowL).flatMap hrow) LvG := hgG0
            replace hst : St w0 _ _ ((b10, Obj.cells (Value.agg #[.int .i64 ((cd : Int)), (.slice A1 bk0.length cA1), .string ((strOf b.toList)), .bool (false)]).cells 29) :: (b9, Obj.cells (Value.agg #[.int .i64 ((cd : Int)), (.slice (some ⟨gH, 0, none⟩) 1 cH), .string (b), .bool (false)]).cells 29) :: (LvG ++ L)) := hst
            first
              | refine DRW.q rfl rfl (fun w' hF => runs_fieldAddr0 rfl Tryd.underlying29 rfl ti23 (by decide)) ?_
              | refine DRW.q rfl rfl (fun w' hF => runs_fieldAddr rfl Tryd.underlying29 rfl ti23 (by decide)) ?_
            refine DRW.opE0 rfl (runs_store1P ti23 rfl rfl hst (k := 1) rfl rfl (NoFz.zero _) hgG.one) ?_
            rintro w hstn
            clear hst
            have hst := hstn
            clear hstn
            try simp only [List.set_cons_zero, List.set_cons_succ] at hst
            refine ⟨FSt.of hst (hI23.trans hJ35) (by first | exact (List.sublist_append_right _ _).trans ((List.sublist_cons_self _ _).trans (List.sublist_cons_self _ _)) | exact ((List.sublist_append_right _ _).trans ((List.sublist_cons_self _ _).trans (List.sublist_cons_self _ _))).trans (List.sublist_append_right _ _)), ?_⟩
            refine DRW.done ?_
            exact AQ.meet (_, _, _, nm) ⟨hle, hM, hT, hnm, hst, hgG⟩ ⟨rfl, rfl, rfl, rfl, trivial⟩
          refine DRW.call rfl rfl call8 rfl rfl (within_spec hst (v := h0) (n := 3) hh0 (by unfold i64ok; decide)) ?_
          rintro e w ⟨rfl, hstn⟩
          clear hst
          have hst := hstn
          clear hstn
          have hj0 := (within_range h0 3).1
          have hj1 := (within_range h0 3).2 (by decide)
          generalize within h0 3 = j at hj0 hj1 ⊢
          obtain ⟨nm, hnm, hsn⟩ := sat_of (l := nmL) hj0 hj1
          refine ⟨_, rfl, FSt.of hst (Imm.le.refl _) (by first | exact (List.sublist_append_right _ _).trans ((List.sublist_cons_self _ _).trans (List.sublist_cons_self _ _)) | exact ((List.sublist_append_right _ _).trans ((List.sublist_cons_self _ _).trans (List.sublist_cons_self _ _))).trans (List.sublist_append_right _ _)), ?_⟩
          refine DRW.fork ?_ ?_
          · first
              | refine DRW.op1 rfl rfl (runs_load1 sc23 rfl (hst.cell_own (k := 0) rfl rfl)) (FSt.of hst (Imm.le.refl _) (by first | exact (List.sublist_append_right _ _).trans ((List.sublist_cons_self _ _).trans (List.sublist_cons_self _ _)) | exact ((List.sublist_append_right _ _).trans ((List.sublist_cons_self _ _).trans (List.sublist_cons_self _ _))).trans (List.sublist_append_right _ _))) ?_
              | refine DRW.op1 rfl rfl (runs_load1 sc23 rfl (hst.cell_own (k := 1) rfl rfl)) (FSt.of hst (Imm.le.refl _) (by first | exact (List.sublist_append_right _ _).trans ((List.sublist_cons_self _ _).trans (List.sublist_cons_self _ _)) | exact ((List.sublist_append_right _ _).trans ((List.sublist_cons_self _ _).trans (List.sublist_cons_self _ _))).trans (List.sublist_append_right _ _))) ?_
              | refine DRW.op1 rfl rfl (runs_load1 sc23 rfl (hst.cell_own (k := 2) rfl rfl)) (FSt.of hst (Imm.le.refl _) (by first | exact (List.sublist_append_right _ _).trans ((List.sublist_cons_self _ _).trans (List.sublist_cons_self _ _)) | exact ((List.sublist_append_right _ _).trans ((List.sublist_cons_self _ _).trans (List.sublist_cons_self _ _))).trans (List.sublist_append_right _ _))) ?_
            refine DRW.opE rfl rfl (runs_lit1R Tryd.underlying24 ti9 (by decide) rfl rfl rfl (by simp [Value.oneCell']) hst) ?_
            rintro u39 w ⟨I39, hI39, hstn, h39⟩
            clear hst
            have hst := hstn
            clear hstn
            replace hM := hM.mono hI39
            replace hT := hT.mono hI39
            replace hle := hle.trans hI39
            refine ⟨FSt.of hst hI39 (by first | exact (List.sublist_append_right _ _).trans ((List.sublist_cons_self _ _).trans (List.sublist_cons_self _ _)) | exact ((List.sublist_append_right _ _).trans ((List.sublist_cons_self _ _).trans (List.sublist_cons_self _ _))).trans (List.sublist_append_right _ _)), ?_⟩
            have hN : RdS _ u39 (nmL.map strOf) := h39
            refine DRW.q rfl rfl (fun w' hF => RdL.indexAddr Tryd.underlying24 ti9 (by decide) rfl rfl hN (by show 0 ≤ j ∧ j < 3; omega)) ?_
            refine DRW.op1 rfl rfl (runs_load1 (v := .string (strOf nm)) sc9 rfl (hst.cell_imm (by rw [← hsn]; exact RdS.at hN (by omega) (by show j < 3; omega)))) (FSt.of hst hI39 (by first | exact (List.sublist_append_right _ _).trans ((List.sublist_cons_self _ _).trans (List.sublist_cons_self _ _)) | exact ((List.sublist_append_right _ _).trans ((List.sublist_cons_self _ _).trans (List.sublist_cons_self _ _))).trans (List.sublist_append_right _ _))) ?_
            refine DRW.q rfl rfl (fun w' hF => runs_buildF (cells := [_, _]) bz27 rfl rfl rfl rfl rfl) ?_
            refine DRW.opE rfl rfl (runs_litF (xs := [.agg #[_, _]]) Tryd.underlying23 ti27 (by decide) rfl rfl rfl rfl rfl hst (by decide)) ?_
            rintro u40 w ⟨Lv40, hstn, hg40⟩
            clear hst
            have hst := hstn
            clear hstn
            refine ⟨FSt.of hst hI39 (by first | exact (List.sublist_append_right _ _).trans ((List.sublist_cons_self _ _).trans (List.sublist_cons_self _ _)) | exact ((List.sublist_append_right _ _).trans ((List.sublist_cons_self _ _).trans (List.sublist_cons_self _ _))).trans (List.sublist_append_right _ _)), ?_⟩
            obtain ⟨J40, hJ40, hstn, h40⟩ := Grow.freeze hg40 hst
            clear hst
            have hst := hstn
            clear hstn
            replace hM := hM.mono hJ40
            replace hT := hT.mono hJ40
            replace h39 := h39.mono hJ40
            replace hN := hN.mono hJ40
            replace hle := hle.trans hJ40
            try simp only [List.nil_append] at h40
            replace h40 : RdL _ 2 u40 1 (hrow (hrowL (nm, Lib.decDigits K))) := h40
            have hL := h40
            refine DRW.opE rfl rfl (runs_appendRA [_, _] Tryd.underlying23 ti27 rfl (by decide) rfl rfl hst hgH hL (by decide) (by decide)) ?_
            rintro uG w ⟨LvG, hstn, hgG0⟩
            clear hst
            have hst := hstn
            clear hstn
            refine ⟨FSt.of hst (hI39.trans hJ40) (by first | exact (List.sublist_append_right _ _).trans ((List.sublist_cons_self _ _).trans (List.sublist_cons_self _ _)) | exact ((List.sublist_append_right _ _).trans ((List.sublist_cons_self _ _).trans (List.sublist_cons_self _ _))).trans (List.sublist_append_right _ _)), ?_⟩
            have hgG : Grow 27 2 uG 2 (((bk1 nm K).map hrowL).flatMap hrow) LvG := hgG0
            replace hst : St w0 _ _ ((b10, Obj.cells (Value.agg #[.int .i64 ((cd : Int)), (.slice A1 bk0.length cA1), .string ((strOf b.toList)), .bool (false)]).cells 29) :: (b9, Obj.cells (Value.agg #[.int .i64 ((cd : Int)), (.slice (some ⟨gH, 0, none⟩) 1 cH), .string (b), .bool (false)]).cells 29) :: (LvG ++ L)) := hst
            first
              | refine DRW.q rfl rfl (fun w' hF => runs_fieldAddr0 rfl Tryd.underlying29 rfl ti23 (by decide)) ?_
              | refine DRW.q rfl rfl (fun w' hF => runs_fieldAddr rfl Tryd.underlying29 rfl ti23 (by decide)) ?_
            refine DRW.opE0 rfl (runs_store1P ti23 rfl rfl hst (k := 1) rfl rfl (NoFz.zero _) hgG.one) ?_
            rintro w hstn
            clear hst
            have hst := hstn
            clear hstn
            try simp only [List.set_cons_zero, List.set_cons_succ] at hst
            refine ⟨FSt.of hst (hI39.trans hJ40) (by first | exact (List.sublist_append_right _ _).trans ((List.sublist_cons_self _ _).trans (List.sublist_cons_self _ _)) | exact ((List.sublist_append_right _ _).trans ((List.sublist_cons_self _ _).trans (List.sublist_cons_self _ _))).trans (List.sublist_append_right _ _)), ?_⟩
            refine DRW.done ?_
            exact AQ.meet (_, _, _, nm) ⟨hle, hM, hT, hnm, hst, hgG⟩ ⟨rfl, rfl, rfl, rfl, trivial⟩
          refine DRW.opE rfl rfl (runs_lit1R Tryd.underlying24 ti9 (by decide) rfl rfl rfl (by simp [Value.oneCell']) hst) ?_
          rintro u43 w ⟨I43, hI43, hstn, h43⟩
          clear hst
          have hst := hstn
          clear hstn
          replace hM := hM.mono hI43
          replace hT := hT.mono hI43
          replace hle := hle.trans hI43
          refine ⟨FSt.of hst hI43 (by first | exact (List.sublist_append_right _ _).trans ((List.sublist_cons_self _ _).trans (List.sublist_cons_self _ _)) | exact ((List.sublist_append_right _ _).trans ((List.sublist_cons_self _ _).trans (List.sublist_cons_self _ _))).trans (List.sublist_append_right _ _)), ?_⟩
          have hN : RdS _ u43 (nmL.map strOf) := h43
          refine DRW.q rfl rfl (fun w' hF => RdL.indexAddr Tryd.underlying24 ti9 (by decide) rfl rfl hN (by show 0 ≤ j ∧ j < 3; omega)) ?_
          refine DRW.fork ?_ ?_
          · first
              | refine DRW.op1 rfl rfl (runs_load1 sc23 rfl (hst.cell_own (k := 0) rfl rfl)) (FSt.of hst hI43 (by first | exact (List.sublist_append_right _ _).trans ((List.sublist_cons_self _ _).trans (List.sublist_cons_self _ _)) | exact ((List.sublist_append_right _ _).trans ((List.sublist_cons_self _ _).trans (List.sublist_cons_self _ _))).trans (List.sublist_append_right _ _))) ?_
              | refine DRW.op1 rfl rfl (runs_load1 sc23 rfl (hst.cell_own (k := 1) rfl rfl)) (FSt.of hst hI43 (by first | exact (List.sublist_append_right _ _).trans ((List.sublist_cons_self _ _).trans (List.sublist_cons_self _ _)) | exact ((List.sublist_append_right _ _).trans ((List.sublist_cons_self _ _).trans (List.sublist_cons_self _ _))).trans (List.sublist_append_right _ _))) ?_
              | refine DRW.op1 rfl rfl (runs_load1 sc23 rfl (hst.cell_own (k := 2) rfl rfl)) (FSt.of hst hI43 (by first | exact (List.sublist_append_right _ _).trans ((List.sublist_cons_self _ _).trans (List.sublist_cons_self _ _)) | exact ((List.sublist_append_right _ _).trans ((List.sublist_cons_self _ _).trans (List.sublist_cons_self _ _))).trans (List.sublist_append_right _ _))) ?_
            refine DRW.op1 rfl rfl (runs_load1 (v := .string (strOf nm)) sc9 rfl (hst.cell_imm (by rw [← hsn]; exact RdS.at hN (by omega) (by show j < 3; omega)))) (FSt.of hst hI43 (by first | exact (List.sublist_append_right _ _).trans ((List.sublist_cons_self _ _).trans (List.sublist_cons_self _ _)) | exact ((List.sublist_append_right _ _).trans ((List.sublist_cons_self _ _).trans (List.sublist_cons_self _ _))).trans (List.sublist_append_right _ _))) ?_
            refine DRW.q rfl rfl (fun w' hF => runs_buildF (cells := [_, _]) bz27 rfl rfl rfl rfl rfl) ?_
            refine DRW.opE rfl rfl (runs_litF (xs := [.agg #[_, _]]) Tryd.underlying23 ti27 (by decide) rfl rfl rfl rfl rfl hst (by decide)) ?_
            rintro u44 w ⟨Lv44, hstn, hg44⟩
            clear hst
            have hst := hstn
            clear hstn
            refine ⟨FSt.of hst hI43 (by first | exact (List.sublist_append_right _ _).trans ((List.sublist_cons_self _ _).trans (List.sublist_cons_self _ _)) | exact ((List.sublist_append_right _ _).trans ((List.sublist_cons_self _ _).trans (List.sublist_cons_self _ _))).trans (List.sublist_append_right _ _)), ?_⟩
            obtain ⟨J44, hJ44, hstn, h44⟩ := Grow.freeze hg44 hst
            clear hst
            have hst := hstn
            clear hstn
            replace hM := hM.mono hJ44
            replace hT := hT.mono hJ44
            replace h43 := h43.mono hJ44
            replace hN := hN.mono hJ44
            replace hle := hle.trans hJ44
            try simp only [List.nil_append] at h44
            replace h44 : RdL _ 2 u44 1 (hrow (hrowL (nm, Lib.decDigits K))) := h44
            have hL := h44
            refine DRW.opE rfl rfl (runs_appendRA [_, _] Tryd.underlying23 ti27 rfl (by decide) rfl rfl hst hgH hL (by decide) (by decide)) ?_
            rintro uG w ⟨LvG, hstn, hgG0⟩
            clear hst
            have hst := hstn
            clear hstn
            refine ⟨FSt.of hst (hI43.trans hJ44) (by first | exact (List.sublist_append_right _ _).trans ((List.sublist_cons_self _ _).trans (List.sublist_cons_self _ _)) | exact ((List.sublist_append_right _ _).trans ((List.sublist_cons_self _ _).trans (List.sublist_cons_self _ _))).trans (List.sublist_append_right _ _)), ?_⟩
            have hgG : Grow 27 2 uG 2 (((bk1 nm K).map hrowL).flatMap hrow) LvG := hgG0
            replace hst : St w0 _ _ ((b10, Obj.cells (Value.agg #[.int .i64 ((cd : Int)), (.slice A1 bk0.length cA1), .string ((strOf b.toList)), .bool (false)]).cells 29) :: (b9, Obj.cells (Value.agg #[.int .i64 ((cd : Int)), (.slice (some ⟨gH, 0, none⟩) 1 cH), .string (b), .bool (false)]).cells 29) :: (LvG ++ L)) := hst
            first
              | refine DRW.q rfl rfl (fun w' hF => runs_fieldAddr0 rfl Tryd.underlying29 rfl ti23 (by decide)) ?_
              | refine DRW.q rfl rfl (fun w' hF => runs_fieldAddr rfl Tryd.underlying29 rfl ti23 (by decide)) ?_
            refine DRW.opE0 rfl (runs_store1P ti23 rfl rfl hst (k := 1) rfl rfl (NoFz.zero _) hgG.one) ?_
            rintro w hstn
            clear hst
            have hst := hstn
            clear hstn
            try simp only [List.set_cons_zero, List.set_cons_succ] at hst
            refine ⟨FSt.of hst (hI43.trans hJ44) (by first | exact (List.sublist_append_right _ _).trans ((List.sublist_cons_self _ _).trans (List.sublist_cons_self _ _)) | exact ((List.sublist_append_right _ _).trans ((List.sublist_cons_self _ _).trans (List.sublist_cons_self _ _))).trans (List.sublist_append_right _ _)), ?_⟩
            refine DRW.done ?_
            exact AQ.meet (_, _, _, nm) ⟨hle, hM, hT, hnm, hst, hgG⟩ ⟨rfl, rfl, rfl, rfl, trivial⟩
          refine DRW.op1 rfl rfl (runs_load1 (v := .string (strOf nm)) sc9 rfl (hst.cell_imm (by rw [← hsn]; exact RdS.at hN (by omega) (by show j < 3; omega)))) (FSt.of hst hI43 (by first | exact (List.sublist_append_right _ _).trans ((List.sublist_cons_self _ _).trans (List.sublist_cons_self _ _)) | exact ((List.sublist_append_right _ _).trans ((List.sublist_cons_self _ _).trans (List.sublist_cons_self _ _))).trans (List.sublist_append_right _ _))) ?_
          refine DRW.q rfl rfl (fun w' hF => runs_buildF (cells := [_, _]) bz27 rfl rfl rfl rfl rfl) ?_
          refine DRW.fork ?_ ?_
          · first
              | refine DRW.op1 rfl rfl (runs_load1 sc23 rfl (hst.cell_own (k := 0) rfl rfl)) (FSt.of hst hI43 (by first | exact (List.sublist_append_right _ _).trans ((List.sublist_cons_self _ _).trans (List.sublist_cons_self _ _)) | exact ((List.sublist_append_right _ _).trans ((List.sublist_cons_self _ _).trans (List.sublist_cons_self _ _))).trans (List.sublist_append_right _ _))) ?_
              | refine DRW.op1 rfl rfl (runs_load1 sc23 rfl (hst.cell_own (k := 1) rfl rfl)) (FSt.of hst hI43 (by first | exact (List.sublist_append_right _ _).trans ((List.sublist_cons_self _ _).trans (List.sublist_cons_self _ _)) | exact ((List.sublist_append_right _ _).trans ((List.sublist_cons_self _ _).trans (List.sublist_cons_self _ _))).trans (List.sublist_append_right _ _))) ?_
              | refine DRW.op1 rfl rfl (runs_load1 sc23 rfl (hst.cell_own (k := 2) rfl rfl)) (FSt.of hst hI43 (by first | exact (List.sublist_append_right _ _).trans ((List.sublist_cons_self _ _).trans (List.sublist_cons_self _ _)) | exact ((List.sublist_append_right _ _).trans ((List.sublist_cons_self _ _).trans (List.sublist_cons_self _ _))).trans (List.sublist_append_right _ _))) ?_
            refine DRW.opE rfl rfl (runs_litF (xs := [.agg #[_, _]]) Tryd.underlying23 ti27 (by decide) rfl rfl rfl rfl rfl hst (by decide)) ?_
            rintro u47 w ⟨Lv47, hstn, hg47⟩
            clear hst
            have hst := hstn
            clear hstn
            refine ⟨FSt.of hst hI43 (by first | exact (List.sublist_append_right _ _).trans ((List.sublist_cons_self _ _).trans (List.sublist_cons_self _ _)) | exact ((List.sublist_append_right _ _).trans ((List.sublist_cons_self _ _).trans (List.sublist_cons_self _ _))).trans (List.sublist_append_right _ _)), ?_⟩
            obtain ⟨J47, hJ47, hstn, h47⟩ := Grow.freeze hg47 hst
            clear hst
            have hst := hstn
            clear hstn
            replace hM := hM.mono hJ47
            replace hT := hT.mono hJ47
            replace h43 := h43.mono hJ47
            replace hN := hN.mono hJ47
            replace hle := hle.trans hJ47
            try simp only [List.nil_append] at h47
            replace h47 : RdL _ 2 u47 1 (hrow (hrowL (nm, Lib.decDigits K))) := h47
            have hL := h47
            refine DRW.opE rfl rfl (runs_appendRA [_, _] Tryd.underlying23 ti27 rfl (by decide) rfl rfl hst hgH hL (by decide) (by decide)) ?_
            rintro uG w ⟨LvG, hstn, hgG0⟩
            clear hst
            have hst := hstn
            clear hstn
            refine ⟨FSt.of hst (hI43.trans hJ47) (by first | exact (List.sublist_append_right _ _).trans ((List.sublist_cons_self _ _).trans (List.sublist_cons_self _ _)) | exact ((List.sublist_append_right _ _).trans ((List.sublist_cons_self _ _).trans (List.sublist_cons_self _ _))).trans (List.sublist_append_right _ _)), ?_⟩
            have hgG : Grow 27 2 uG 2 (((bk1 nm K).map hrowL).flatMap hrow) LvG := hgG0
            replace hst : St w0 _ _ ((b10, Obj.cells (Value.agg #[.int .i64 ((cd : Int)), (.slice A1 bk0.length cA1), .string ((strOf b.toList)), .bool (false)]).cells 29) :: (b9, Obj.cells (Value.agg #[.int .i64 ((cd : Int)), (.slice (some ⟨gH, 0, none⟩) 1 cH), .string (b), .bool (false)]).cells 29) :: (LvG ++ L)) := hst
            first
              | refine DRW.q rfl rfl (fun w' hF => runs_fieldAddr0 rfl Tryd.underlying29 rfl ti23 (by decide)) ?_
              | refine DRW.q rfl rfl (fun w' hF => runs_fieldAddr rfl Tryd.underlying29 rfl ti23 (by decide)) ?_
            refine DRW.opE0 rfl (runs_store1P ti23 rfl rfl hst (k := 1) rfl rfl (NoFz.zero _) hgG.one) ?_
            rintro w hstn
            clear hst
            have hst := hstn
            clear hstn
            try simp only [List.set_cons_zero, List.set_cons_succ] at hst
            refine ⟨FSt.of hst (hI43.trans hJ47) (by first | exact (List.sublist_append_right _ _).trans ((List.sublist_cons_self _ _).trans (List.sublist_cons_self _ _)) | exact ((List.sublist_append_right _ _).trans ((List.sublist_cons_self _ _).trans (List.sublist_cons_self _ _))).trans (List.sublist_append_right _ _)), ?_⟩
            refine DRW.done ?_
            exact AQ.meet (_, _, _, nm) ⟨hle, hM, hT, hnm, hst, hgG⟩ ⟨rfl, rfl, rfl, rfl, trivial⟩
          refine DRW.opE rfl rfl (runs_litF (xs := [.agg #[_, _]]) Tryd.underlying23 ti27 (by decide) rfl rfl rfl rfl rfl hst (by decide)) ?_
          rintro u50 w ⟨Lv50, hstn, hg50⟩
          clear hst
          have hst := hstn
          clear hstn
          refine ⟨FSt.of hst hI43 (by first | exact (List.sublist_append_right _ _).trans ((List.sublist_cons_self _ _).trans (List.sublist_cons_self _ _)) | exact ((List.sublist_append_right _ _).trans ((List.sublist_cons_self _ _).trans (List.sublist_cons_self _ _))).trans (List.sublist_append_right _ _)), ?_⟩
          obtain ⟨J50, hJ50, hstn, h50⟩ := Grow.freeze hg50 hst
          clear hst
          have hst := hstn
          clear hstn
          replace hM := hM.mono hJ50
          replace hT := hT.mono hJ50
          replace h43 := h43.mono hJ50
          replace hN := hN.mono hJ50
          replace hle := hle.trans hJ50
          try simp only [List.nil_append] at h50
          replace h50 : RdL _ 2 u50 1 (hrow (hrowL (nm, Lib.decDigits K))) := h50
          have hL := h50
          first
            | refine DRW.op1 rfl rfl (runs_load1 sc23 rfl (hst.cell_own (k := 0) rfl rfl)) (FSt.of hst (hI43.trans hJ50) (by first | exact (List.sublist_append_right _ _).trans ((List.sublist_cons_self _ _).trans (List.sublist_cons_self _ _)) | exact ((List.sublist_append_right _ _).trans ((List.sublist_cons_self _ _).trans (List.sublist_cons_self _ _))).trans (List.sublist_append_right _ _))) ?_
            | refine DRW.op1 rfl rfl (runs_load1 sc23 rfl (hst.cell_own (k := 1) rfl rfl)) (FSt.of hst (hI43.trans hJ50) (by first | exact (List.sublist_append_right _ _).trans ((List.sublist_cons_self _ _).trans (List.sublist_cons_self _ _)) | exact ((List.sublist_append_right _ _).trans ((List.sublist_cons_self _ _).trans (List.sublist_cons_self _ _))).trans (List.sublist_append_right _ _))) ?_
            | refine DRW.op1 rfl rfl (runs_load1 sc23 rfl (hst.cell_own (k := 2) rfl rfl)) (FSt.of hst (hI43.trans hJ50) (by first | exact (List.sublist_append_right _ _).trans ((List.sublist_cons_self _ _).trans (List.sublist_cons_self _ _)) | exact ((List.sublist_append_right _ _).trans ((List.sublist_cons_self _ _).trans (List.sublist_cons_self _ _))).trans (List.sublist_append_right _ _))) ?_
          refine DRW.opE rfl rfl (runs_appendRA [_, _] Tryd.underlying23 ti27 rfl (by decide) rfl rfl hst hgH hL (by decide) (by decide)) ?_
          rintro uG w ⟨LvG, hstn, hgG0⟩
          clear hst
          have hst := hstn
          clear hstn
          refine ⟨FSt.of hst (hI43.trans hJ50) (by first | exact (List.sublist_append_right _ _).trans ((List.sublist_cons_self _ _).trans (List.sublist_cons_self _ _)) | exact ((List.sublist_append_right _ _).trans ((List.sublist_cons_self _ _).trans (List.sublist_cons_self _ _))).trans (List.sublist_append_right _ _)), ?_⟩
          have hgG : Grow 27 2 uG 2 (((bk1 nm K).map hrowL).flatMap hrow) LvG := hgG0
          replace hst : St w0 _ _ ((b10, Obj.cells (Value.agg #[.int .i64 ((cd : Int)), (.slice A1 bk0.length cA1), .string ((strOf b.toList)), .bool (false)]).cells 29) :: (b9, Obj.cells (Value.agg #[.int .i64 ((cd : Int)), (.slice (some ⟨gH, 0, none⟩) 1 cH), .string (b), .bool (false)]).cells 29) :: (LvG ++ L)) := hst
          first
            | refine DRW.q rfl rfl (fun w' hF => runs_fieldAddr0 rfl Tryd.underlying29 rfl ti23 (by decide)) ?_
            | refine DRW.q rfl rfl (fun w' hF => runs_fieldAddr rfl Tryd.underlying29 rfl ti23 (by decide)) ?_
          refine DRW.opE0 rfl (runs_store1P ti23 rfl rfl hst (k := 1) rfl rfl (NoFz.zero _) hgG.one) ?_
          rintro w hstn
          clear hst
          have hst := hstn
          clear hstn
          try simp only [List.set_cons_zero, List.set_cons_succ] at hst
          refine ⟨FSt.of hst (hI43.trans hJ50) (by first | exact (List.sublist_append_right _ _).trans ((List.sublist_cons_self _ _).trans (List.sublist_cons_self _ _)) | exact ((List.sublist_append_right _ _).trans ((List.sublist_cons_self _ _).trans (List.sublist_cons_self _ _))).trans (List.sublist_append_right _ _)), ?_⟩
          refine DRW.done ?_
          exact AQ.meet (_, _, _, nm) ⟨hle, hM, hT, hnm, hst, hgG⟩ ⟨rfl, rfl, rfl, rfl, trivial⟩
        · clear hle hM hT hgH
          rintro ⟨I6, uG, LvG, nm⟩ w ⟨hle, hM, hT, hnm, hstn, hgG⟩
          dsimp only at hle hM hT hnm hstn hgG ⊢
          clear hst
          have hst := hstn
          clear hstn
          obtain ⟨gG, cG, hcurG, rfl, rfl, _⟩ := Grow.shape hgG (by decide)
          obtain ⟨_, hsm1, hsm2⟩ := bk_sm hnm hK6
          have ho1 := bk1_out hc1 hc2 hnm hK6 b.toList
          have ho2 := bk2_out hc1 hc2 hnm hK6 b.toList
          refine AQ.next ?_
          refine CW.seq ?_
          -- region 14
          refine CW.region ?_
          first
            | refine RW.op1 rfl (runs_loadN (vs := [_, _, _, _]) ag29 ti29 rfl hst (k := 0) rfl rfl rfl) ?_
            | refine RW.op1 rfl (runs_loadN (vs := [_, _, _, _]) ag29 ti29 rfl hst (k := 1) rfl rfl rfl) ?_
            | refine RW.op1 rfl (runs_loadN (vs := [_, _, _, _]) ag29 ti29 rfl hst (k := 2) rfl rfl rfl) ?_
          refine RW.call rfl call13 rfl rfl (print_own [_, _] hst hT hgG (hs := (bk1 nm K)) rfl (cd : Int) (by omega) (by omega) hsm1 b (by omega) false) ?_
          rintro e w ⟨I7, hI7, rfl, hstn⟩
          clear hst
          have hst := hstn
          clear hstn
          rw [Int.toNat_natCast]
          have hst2 : St w0 w I7 ((b10, Obj.cells (Value.agg #[.int .i64 ((cd : Int)), (.slice A1 bk0.length cA1), .string ((strOf b.toList)), .bool (false)]).cells 29) :: (b9, Obj.cells (Value.agg #[.int .i64 ((cd : Int)), (.slice (some ⟨gG, 0, none⟩) 2 cG), .string (b), .bool (false)]).cells 29) :: ([(gG, .cells hcurG 27)] ++ L)) := hst
          clear hst
          have hst := hst2
          clear hst2
          replace hM := hM.mono hI7
          replace hT := hT.mono hI7
          replace hle := hle.trans hI7
          refine ⟨_, rfl, ?_⟩
          refine RW.call rfl call9 rfl rfl (parse2_spec hst hM (strOf (printL cd (bk1 nm K) b.toList)) (by rw [strOfZ]; have := printL_len hc1 hc2 hsm1 b.toList; omega)) ?_
          rintro e w ⟨I8, A2, cA2, hI8, rfl, hstn, hv2, _, _, _⟩
          clear hst
          have hst := hstn
          clear hstn
          rw [strOf_toList, ho1.1, ho1.2] at *
          dsimp only at hv2 ⊢
          replace hM := hM.mono hI8
          replace hT := hT.mono hI8
          replace hle := hle.trans hI8
          refine ⟨_, rfl, ?_⟩
          refine RW.op1 rfl (runs_move rfl) ?_
          refine RW.op1 rfl (runs_extract rfl rfl) ?_
          refine RW.op1 rfl (runs_extract rfl rfl) ?_
          first
            | refine RW.opE0 (runs_storeW ti29 rfl rfl hst (k := 0) rfl rfl rfl (NoFz.zero _) rfl) ?_
            | refine RW.opE0 (runs_storeP ti29 rfl rfl hst (k := 0) rfl rfl rfl (NoFz.zero _) rfl) ?_
            | refine RW.opE0 (runs_storeW ti29 rfl rfl hst (k := 1) rfl rfl rfl (NoFz.zero _) rfl) ?_
            | refine RW.opE0 (runs_storeP ti29 rfl rfl hst (k := 1) rfl rfl rfl (NoFz.zero _) rfl) ?_
            | refine RW.opE0 (runs_storeW ti29 rfl rfl hst (k := 2) rfl rfl rfl (NoFz.zero _) rfl) ?_
            | refine RW.opE0 (runs_storeP ti29 rfl rfl hst (k := 2) rfl rfl rfl (NoFz.zero _) rfl) ?_
          rintro w hstn
          clear hst
          have hst := hstn
          clear hstn
          try simp only [List.set_cons_zero, List.set_cons_succ] at hst
          refine RW.op1 rfl (runs_assign rfl) ?_
          refine RW.done ?_
          refine AQ.next ?_
          refine CW.seq ?_
          refine CW.seq ?_
          -- region 15
          refine CW.drawSt hst (.q 0 (.q 1 (.q 2 (.q 3 (.q 4 (.q 5 (.q 6 (.q 7 (.q 8 (.q 9 (.q 10 (.q 11 (.q 12 (.q 13 (.q 14 (.q 15 (.q 16 (.q 17 (.q 18 (.q 19 (.q 20 (.q 21 .nil)))))))))))))))))))))) follows (by kernel_rfl) (fun w hst => ?_)
          refine DRW.q rfl rfl (fun w' hF => runs_move rfl) ?_
          refine DRW.q rfl rfl (fun w' hF => runs_neI rfl rfl) ?_
          refine DRW.q rfl rfl (fun w' hF => runs_move rfl) ?_
          have hk100 := (show decide ((0 : Int) ≠ 0) = false by decide)
          first
            | refine DRW.q_on rfl rfl rfl rfl hk100 rfl (fun w' hF => runs_fieldAddr0 rfl Tryd.underlying29 rfl ti4 (by decide)) ?_
            | refine DRW.q_on rfl rfl rfl rfl hk100 rfl (fun w' hF => runs_fieldAddr rfl Tryd.underlying29 rfl ti4 (by decide)) ?_
          refine DRW.q_on rfl rfl rfl rfl hk100 rfl (FSt.load1_own (v := .bool (decide (b.toList.length < K))) sc4 rfl (k := 0) rfl rfl) ?_
          refine DRW.q_on rfl rfl rfl rfl hk100 rfl (fun w' hF => runs_move rfl) ?_
          refine DRW.q_on rfl rfl rfl rfl hk100 rfl (fun w' hF => runs_move rfl) ?_
          refine DRW.q_on rfl rfl rfl rfl hk100 rfl (fun w' hF => runs_lenS Tryd.underlying9 rfl) ?_
          refine DRW.q_on rfl rfl rfl rfl hk100 rfl (fun w' hF => runs_gtr rfl rfl) ?_
          refine DRW.q_on rfl rfl rfl rfl hk100 rfl (fun w' hF => runs_neB Tryd.underlying4 rfl rfl) ?_
          refine DRW.q rfl rfl (fun w' hF => runs_pick_false rfl hk100 rfl) ?_
          refine DRW.q rfl rfl (fun w' hF => runs_move rfl) ?_
          have hk109 := (show (!(decide (b.toList.length < K) == decide (((K : Nat) : Int) > ((b.size : Nat) : Int)))) = false by rw [show decide (((K : Nat) : Int) > ((b.size : Nat) : Int)) = decide (b.toList.length < K) from decide_eq_decide.2 (by omega)]; simp)
          first
            | refine DRW.q_on rfl rfl rfl rfl hk109 rfl (fun w' hF => runs_fieldAddr0 rfl Tryd.underlying29 rfl ti9 (by decide)) ?_
            | refine DRW.q_on rfl rfl rfl rfl hk109 rfl (fun w' hF => runs_fieldAddr rfl Tryd.underlying29 rfl ti9 (by decide)) ?_
          refine DRW.q_on rfl rfl rfl rfl hk109 rfl (FSt.load1_own (v := .string (strOf (b.toList.take K))) sc9 rfl (k := 0) rfl rfl) ?_
          refine DRW.q_on rfl rfl rfl rfl hk109 rfl (fun w' hF => runs_move rfl) ?_
          refine DRW.q_on rfl rfl rfl rfl hk109 rfl (fun w' hF => runs_move rfl) ?_
          refine DRW.q_on rfl rfl rfl rfl hk109 rfl (fun w' hF => runs_move rfl) ?_
          refine DRW.q_on rfl rfl rfl rfl hk109 rfl (fun w' hF => runs_lenS Tryd.underlying9 rfl) ?_
          refine DRW.q_on rfl rfl rfl rfl hk109 rfl (fun w' hF => runs_min rfl rfl) ?_
          obtain ⟨m, hm⟩ : ∃ m : Nat, m = min K b.size := ⟨_, rfl⟩
          rw [show (if ((b.size : Nat) : Int) < ((K : Nat) : Int) then ((b.size : Nat) : Int) else ((K : Nat) : Int)) = (m : Int) by split <;> omega]
          refine DRW.q_on rfl rfl rfl rfl hk109 rfl (fun w' hF => runs_sliceS_h Tryd.underlying9 rfl rfl (by omega)) ?_
          rw [show b.extract 0 ((m : Int)).toNat = strOf (b.toList.take K) from by
            rw [extractE, show ((m : Int)).toNat = m from rfl, List.drop_zero, Nat.sub_zero, hm]
            by_cases h4 : K ≤ b.size
            · rw [Nat.min_eq_left h4]
            · rw [Nat.min_eq_right (by omega), List.take_of_length_le (by omega), List.take_of_length_le (by omega)]]
          refine DRW.q_on rfl rfl rfl rfl hk109 rfl (fun w' hF => runs_neS rfl rfl) ?_
          refine DRW.q rfl rfl (fun w' hF => runs_pick_false rfl hk109 rfl) ?_
          refine DRW.done ?_
          refine AQ.next ?_
          refine CW.cond rfl (fun hc => absurd hc (by simp)) (fun hc => ?_)
          refine CW.skip ?_
          refine AQ.next ?_
          refine CW.seq ?_
          -- region 17
          refine CW.cut (Imm × Value × Own) (fun x w => I.le x.1 ∧ MaxK x.1 ∧ TabK x.1 ∧ St w0 w x.1 ((b10, Obj.cells (Value.agg #[.int .i64 ((cd : Int)), (.slice A2 (bk1 nm K).length cA2), .string ((strOf (b.toList.take K))), .bool ((decide (b.toList.length < K)))]).cells 29) :: (b9, Obj.cells (Value.agg #[.int .i64 ((cd : Int)), x.2.1, .string (b), .bool (false)]).cells 29) :: (x.2.2 ++ L)) ∧ Grow 27 2 x.2.1 3 (((bk2 nm K).map hrowL).flatMap hrow) x.2.2) (fun _ => [(9, .pointer (some ⟨b9, 0, none⟩)), (10, .pointer (some ⟨b10, 0, none⟩))]) ?_ ?_
          · -- region 17
            refine CW.draw (FSt w0 I8 L) (.q 0 (.q 2 (.fork (.l 1 (.l 3 (.q 4 (.l 5 (.l 6 (.l 7 (.q 8 (.l 9 .nil)))))))) (.l 3 (.q 4 (.fork (.l 1 (.l 5 (.l 6 (.l 7 (.q 8 (.l 9 .nil)))))) (.l 5 (.fork (.l 1 (.l 6 (.l 7 (.q 8 (.l 9 .nil))))) (.l 6 (.l 1 (.l 7 (.q 8 (.l 9 .nil))))))))))))) follows (by kernel_rfl) ⟨_, Imm.le.refl _, hst.draw.sub ((List.sublist_append_right _ _).trans ((List.sublist_cons_self _ _).trans (List.sublist_cons_self _ _)))⟩ ?_
            replace hst := hst.draw
            first
              | refine DRW.q rfl rfl (fun w' hF => runs_fieldAddr0 rfl Tryd.underlying29 rfl ti23 (by decide)) ?_
              | refine DRW.q rfl rfl (fun w' hF => runs_fieldAddr rfl Tryd.underlying29 rfl ti23 (by decide)) ?_
            first
              | refine DRW.q rfl rfl (fun w' hF => runs_fieldAddr0 rfl Tryd.underlying29 rfl ti23 (by decide)) ?_
              | refine DRW.q rfl rfl (fun w' hF => runs_fieldAddr rfl Tryd.underlying29 rfl ti23 (by decide)) ?_
            refine DRW.fork ?_ ?_
            · first
                | refine DRW.op1 rfl rfl (runs_load1 sc23 rfl (hst.cell_own (k := 0) rfl rfl)) (FSt.of hst (Imm.le.refl _) (by first | exact (List.sublist_append_right _ _).trans ((List.sublist_cons_self _ _).trans (List.sublist_cons_self _ _)) | exact ((List.sublist_append_right _ _).trans ((List.sublist_cons_self _ _).trans (List.sublist_cons_self _ _))).trans (List.sublist_append_right _ _))) ?_
                | refine DRW.op1 rfl rfl (runs_load1 sc23 rfl (hst.cell_own (k := 1) rfl rfl)) (FSt.of hst (Imm.le.refl _) (by first | exact (List.sublist_append_right _ _).trans ((List.sublist_cons_self _ _).trans (List.sublist_cons_self _ _)) | exact ((List.sublist_append_right _ _).trans ((List.sublist_cons_self _ _).trans (List.sublist_cons_self _ _))).trans (List.sublist_append_right _ _))) ?_
                | refine DRW.op1 rfl rfl (runs_load1 sc23 rfl (hst.cell_own (k := 2) rfl rfl)) (FSt.of hst (Imm.le.refl _) (by first | exact (List.sublist_append_right _ _).trans ((List.sublist_cons_self _ _).trans (List.sublist_cons_self _ _)) | exact ((List.sublist_append_right _ _).trans ((List.sublist_cons_self _ _).trans (List.sublist_cons_self _ _))).trans (List.sublist_append_right _ _))) ?_
              first
                | refine DRW.op1 rfl rfl (runs_load1 sc23 rfl (hst.cell_own (k := 0) rfl rfl)) (FSt.of hst (Imm.le.refl _) (by first | exact (List.sublist_append_right _ _).trans ((List.sublist_cons_self _ _).trans (List.sublist_cons_self _ _)) | exact ((List.sublist_append_right _ _).trans ((List.sublist_cons_self _ _).trans (List.sublist_cons_self _ _))).trans (List.sublist_append_right _ _))) ?_
                | refine DRW.op1 rfl rfl (runs_load1 sc23 rfl (hst.cell_own (k := 1) rfl rfl)) (FSt.of hst (Imm.le.refl _) (by first | exact (List.sublist_append_right _ _).trans ((List.sublist_cons_self _ _).trans (List.sublist_cons_self _ _)) | exact ((List.sublist_append_right _ _).trans ((List.sublist_cons_self _ _).trans (List.sublist_cons_self _ _))).trans (List.sublist_append_right _ _))) ?_
                | refine DRW.op1 rfl rfl (runs_load1 sc23 rfl (hst.cell_own (k := 2) rfl rfl)) (FSt.of hst (Imm.le.refl _) (by first | exact (List.sublist_append_right _ _).trans ((List.sublist_cons_self _ _).trans (List.sublist_cons_self _ _)) | exact ((List.sublist_append_right _ _).trans ((List.sublist_cons_self _ _).trans (List.sublist_cons_self _ _))).trans (List.sublist_append_right _ _))) ?_
              refine DRW.q rfl rfl (fun w' hF => Grow.indexAddr Tryd.underlying23 ti27 hgG rfl rfl (by decide)) ?_
              refine DRW.op1 rfl rfl (Grow.loadAt (row := hrow (hrowL (nm, Lib.decDigits K))) ag27 ti27 hgG rfl hst (fun p hp => by simp at hp; simp [hp]) rfl (hrow_at (rows := (bk1 nm K).map hrowL) (k := 1) rfl)) (FSt.of hst (Imm.le.refl _) (by first | exact (List.sublist_append_right _ _).trans ((List.sublist_cons_self _ _).trans (List.sublist_cons_self _ _)) | exact ((List.sublist_append_right _ _).trans ((List.sublist_cons_self _ _).trans (List.sublist_cons_self _ _))).trans (List.sublist_append_right _ _))) ?_
              refine DRW.opE rfl rfl (runs_litF (xs := [.agg #[_, _]]) Tryd.underlying23 ti27 (by decide) rfl rfl rfl rfl rfl hst (by decide)) ?_
              rintro u56 w ⟨Lv56, hstn, hg56⟩
              clear hst
              have hst := hstn
              clear hstn
              refine ⟨FSt.of hst (Imm.le.refl _) (by first | exact (List.sublist_append_right _ _).trans ((List.sublist_cons_self _ _).trans (List.sublist_cons_self _ _)) | exact ((List.sublist_append_right _ _).trans ((List.sublist_cons_self _ _).trans (List.sublist_cons_self _ _))).trans (List.sublist_append_right _ _)), ?_⟩
              obtain ⟨J56, hJ56, hstn, h56⟩ := Grow.freeze hg56 hst
              clear hst
              have hst := hstn
              clear hstn
              replace hM := hM.mono hJ56
              replace hT := hT.mono hJ56
              replace hle := hle.trans hJ56
              try simp only [List.nil_append] at h56
              replace h56 : RdL _ 2 u56 1 (hrow (hrowL (nm, Lib.decDigits K))) := h56
              have hL := h56
              refine DRW.opE rfl rfl (runs_appendRA [_, _] Tryd.underlying23 ti27 rfl (by decide) rfl rfl hst hgG hL (by decide) (by decide)) ?_
              rintro uN w ⟨LvN, hstn, hgN0⟩
              clear hst
              have hst := hstn
              clear hstn
              refine ⟨FSt.of hst hJ56 (by first | exact (List.sublist_append_right _ _).trans ((List.sublist_cons_self _ _).trans (List.sublist_cons_self _ _)) | exact ((List.sublist_append_right _ _).trans ((List.sublist_cons_self _ _).trans (List.sublist_cons_self _ _))).trans (List.sublist_append_right _ _)), ?_⟩
              have hgN : Grow 27 2 uN 3 (((bk2 nm K).map hrowL).flatMap hrow) LvN := hgN0
              replace hst : St w0 _ _ ((b10, Obj.cells (Value.agg #[.int .i64 ((cd : Int)), (.slice A2 (bk1 nm K).length cA2), .string ((strOf (b.toList.take K))), .bool ((decide (b.toList.length < K)))]).cells 29) :: (b9, Obj.cells (Value.agg #[.int .i64 ((cd : Int)), (.slice (some ⟨gG, 0, none⟩) 2 cG), .string (b), .bool (false)]).cells 29) :: (LvN ++ L)) := hst
              first
                | refine DRW.q rfl rfl (fun w' hF => runs_fieldAddr0 rfl Tryd.underlying29 rfl ti23 (by decide)) ?_
                | refine DRW.q rfl rfl (fun w' hF => runs_fieldAddr rfl Tryd.underlying29 rfl ti23 (by decide)) ?_
              refine DRW.opE0 rfl (runs_store1P ti23 rfl rfl hst (k := 1) rfl rfl (NoFz.zero _) hgN.one) ?_
              rintro w hstn
              clear hst
              have hst := hstn
              clear hstn
              try simp only [List.set_cons_zero, List.set_cons_succ] at hst
              refine ⟨FSt.of hst hJ56 (by first | exact (List.sublist_append_right _ _).trans ((List.sublist_cons_self _ _).trans (List.sublist_cons_self _ _)) | exact ((List.sublist_append_right _ _).trans ((List.sublist_cons_self _ _).trans (List.sublist_cons_self _ _))).trans (List.sublist_append_right _ _)), ?_⟩
              refine DRW.done ?_
              exact AQ.meet (_, _, _) ⟨hle, hM, hT, hst, hgN⟩ ⟨rfl, rfl, trivial⟩
            first
              | refine DRW.op1 rfl rfl (runs_load1 sc23 rfl (hst.cell_own (k := 0) rfl rfl)) (FSt.of hst (Imm.le.refl _) (by first | exact (List.sublist_append_right _ _).trans ((List.sublist_cons_self _ _).trans (List.sublist_cons_self _ _)) | exact ((List.sublist_append_right _ _).trans ((List.sublist_cons_self _ _).trans (List.sublist_cons_self _ _))).trans (List.sublist_append_right _ _))) ?_
              | refine DRW.op1 rfl rfl (runs_load1 sc23 rfl (hst.cell_own (k := 1) rfl rfl)) (FSt.of hst (Imm.le.refl _) (by first | exact (List.sublist_append_right _ _).trans ((List.sublist_cons_self _ _).trans (List.sublist_cons_self _ _)) | exact ((List.sublist_append_right _ _).trans ((List.sublist_cons_self _ _).trans (List.sublist_cons_self _ _))).trans (List.sublist_append_right _ _))) ?_
              | refine DRW.op1 rfl rfl (runs_load1 sc23 rfl (hst.cell_own (k := 2) rfl rfl)) (FSt.of hst (Imm.le.refl _) (by first | exact (List.sublist_append_right _ _).trans ((List.sublist_cons_self _ _).trans (List.sublist_cons_self _ _)) | exact ((List.sublist_append_right _ _).trans ((List.sublist_cons_self _ _).trans (List.sublist_cons_self _ _))).trans (List.sublist_append_right _ _))) ?_
            refine DRW.q rfl rfl (fun w' hF => Grow.indexAddr Tryd.underlying23 ti27 hgG rfl rfl (by decide)) ?_
            refine DRW.fork ?_ ?_
            · first
                | refine DRW.op1 rfl rfl (runs_load1 sc23 rfl (hst.cell_own (k := 0) rfl rfl)) (FSt.of hst (Imm.le.refl _) (by first | exact (List.sublist_append_right _ _).trans ((List.sublist_cons_self _ _).trans (List.sublist_cons_self _ _)) | exact ((List.sublist_append_right _ _).trans ((List.sublist_cons_self _ _).trans (List.sublist_cons_self _ _))).trans (List.sublist_append_right _ _))) ?_
                | refine DRW.op1 rfl rfl (runs_load1 sc23 rfl (hst.cell_own (k := 1) rfl rfl)) (FSt.of hst (Imm.le.refl _) (by first | exact (List.sublist_append_right _ _).trans ((List.sublist_cons_self _ _).trans (List.sublist_cons_self _ _)) | exact ((List.sublist_append_right _ _).trans ((List.sublist_cons_self _ _).trans (List.sublist_cons_self _ _))).trans (List.sublist_append_right _ _))) ?_
                | refine DRW.op1 rfl rfl (runs_load1 sc23 rfl (hst.cell_own (k := 2) rfl rfl)) (FSt.of hst (Imm.le.refl _) (by first | exact (List.sublist_append_right _ _).trans ((List.sublist_cons_self _ _).trans (List.sublist_cons_self _ _)) | exact ((List.sublist_append_right _ _).trans ((List.sublist_cons_self _ _).trans (List.sublist_cons_self _ _))).trans (List.sublist_append_right _ _))) ?_
              refine DRW.op1 rfl rfl (Grow.loadAt (row := hrow (hrowL (nm, Lib.decDigits K))) ag27 ti27 hgG rfl hst (fun p hp => by simp at hp; simp [hp]) rfl (hrow_at (rows := (bk1 nm K).map hrowL) (k := 1) rfl)) (FSt.of hst (Imm.le.refl _) (by first | exact (List.sublist_append_right _ _).trans ((List.sublist_cons_self _ _).trans (List.sublist_cons_self _ _)) | exact ((List.sublist_append_right _ _).trans ((List.sublist_cons_self _ _).trans (List.sublist_cons_self _ _))).trans (List.sublist_append_right _ _))) ?_
              refine DRW.opE rfl rfl (runs_litF (xs := [.agg #[_, _]]) Tryd.underlying23 ti27 (by decide) rfl rfl rfl rfl rfl hst (by decide)) ?_
              rintro u59 w ⟨Lv59, hstn, hg59⟩
              clear hst
              have hst := hstn
              clear hstn
              refine ⟨FSt.of hst (Imm.le.refl _) (by first | exact (List.sublist_append_right _ _).trans ((List.sublist_cons_self _ _).trans (List.sublist_cons_self _ _)) | exact ((List.sublist_append_right _ _).trans ((List.sublist_cons_self _ _).trans (List.sublist_cons_self _ _))).trans (List.sublist_append_right _ _)), ?_⟩
              obtain ⟨J59, hJ59, hstn, h59⟩ := Grow.freeze hg59 hst
              clear hst
              have hst := hstn
              clear hstn
              replace hM := hM.mono hJ59
              replace hT := hT.mono hJ59
              replace hle := hle.trans hJ59
              try simp only [List.nil_append] at h59
              replace h59 : RdL _ 2 u59 1 (hrow (hrowL (nm, Lib.decDigits K))) := h59
              have hL := h59
              refine DRW.opE rfl rfl (runs_appendRA [_, _] Tryd.underlying23 ti27 rfl (by decide) rfl rfl hst hgG hL (by decide) (by decide)) ?_
              rintro uN w ⟨LvN, hstn, hgN0⟩
              clear hst
              have hst := hstn
              clear hstn
              refine ⟨FSt.of hst hJ59 (by first | exact (List.sublist_append_right _ _).trans ((List.sublist_cons_self _ _).trans (List.sublist_cons_self _ _)) | exact ((List.sublist_append_right _ _).trans ((List.sublist_cons_self _ _).trans (List.sublist_cons_self _ _))).trans (List.sublist_append_right _ _)), ?_⟩
              have hgN : Grow 27 2 uN 3 (((bk2 nm K).map hrowL).flatMap hrow) LvN := hgN0
              replace hst : St w0 _ _ ((b10, Obj.cells (Value.agg #[.int .i64 ((cd : Int)), (.slice A2 (bk1 nm K).length cA2), .string ((strOf (b.toList.take K))), .bool ((decide (b.toList.length < K)))]).cells 29) :: (b9, Obj.cells (Value.agg #[.int .i64 ((cd : Int)), (.slice (some ⟨gG, 0, none⟩) 2 cG), .string (b), .bool (false)]).cells 29) :: (LvN ++ L)) := hst
              first
                | refine DRW.q rfl rfl (fun w' hF => runs_fieldAddr0 rfl Tryd.underlying29 rfl ti23 (by decide)) ?_
                | refine DRW.q rfl rfl (fun w' hF => runs_fieldAddr rfl Tryd.underlying29 rfl ti23 (by decide)) ?_
              refine DRW.opE0 rfl (runs_store1P ti23 rfl rfl hst (k := 1) rfl rfl (NoFz.zero _) hgN.one) ?_
              rintro w hstn
              clear hst
              have hst := hstn
              clear hstn
              try simp only [List.set_cons_zero, List.set_cons_succ] at hst
              refine ⟨FSt.of hst hJ59 (by first | exact (List.sublist_append_right _ _).trans ((List.sublist_cons_self _ _).trans (List.sublist_cons_self _ _)) | exact ((List.sublist_append_right _ _).trans ((List.sublist_cons_self _ _).trans (List.sublist_cons_self _ _))).trans (List.sublist_append_right _ _)), ?_⟩
              refine DRW.done ?_
              exact AQ.meet (_, _, _) ⟨hle, hM, hT, hst, hgN⟩ ⟨rfl, rfl, trivial⟩
            refine DRW.op1 rfl rfl (Grow.loadAt (row := hrow (hrowL (nm, Lib.decDigits K))) ag27 ti27 hgG rfl hst (fun p hp => by simp at hp; simp [hp]) rfl (hrow_at (rows := (bk1 nm K).map hrowL) (k := 1) rfl)) (FSt.of hst (Imm.le.refl _) (by first | exact (List.sublist_append_right _ _).trans ((List.sublist_cons_self _ _).trans (List.sublist_cons_self _ _)) | exact ((List.sublist_append_right _ _).trans ((List.sublist_cons_self _ _).trans (List.sublist_cons_self _ _))).trans (List.sublist_append_right _ _))) ?_
            refine DRW.fork ?_ ?_
            · first
                | refine DRW.op1 rfl rfl (runs_load1 sc23 rfl (hst.cell_own (k := 0) rfl rfl)) (FSt.of hst (Imm.le.refl _) (by first | exact (List.sublist_append_right _ _).trans ((List.sublist_cons_self _ _).trans (List.sublist_cons_self _ _)) | exact ((List.sublist_append_right _ _).trans ((List.sublist_cons_self _ _).trans (List.sublist_cons_self _ _))).trans (List.sublist_append_right _ _))) ?_
                | refine DRW.op1 rfl rfl (runs_load1 sc23 rfl (hst.cell_own (k := 1) rfl rfl)) (FSt.of hst (Imm.le.refl _) (by first | exact (List.sublist_append_right _ _).trans ((List.sublist_cons_self _ _).trans (List.sublist_cons_self _ _)) | exact ((List.sublist_append_right _ _).trans ((List.sublist_cons_self _ _).trans (List.sublist_cons_self _ _))).trans (List.sublist_append_right _ _))) ?_
                | refine DRW.op1 rfl rfl (runs_load1 sc23 rfl (hst.cell_own (k := 2) rfl rfl)) (FSt.of hst (Imm.le.refl _) (by first | exact (List.sublist_append_right _ _).trans ((List.sublist_cons_self _ _).trans (List.sublist_cons_self _ _)) | exact ((List.sublist_append_right _ _).trans ((List.sublist_cons_self _ _).trans (List.sublist_cons_self _ _))).trans (List.sublist_append_right _ _))) ?_
              refine DRW.opE rfl rfl (runs_litF (xs := [.agg #[_, _]]) Tryd.underlying23 ti27 (by decide) rfl rfl rfl rfl rfl hst (by decide)) ?_
              rintro u62 w ⟨Lv62, hstn, hg62⟩
              clear hst
              have hst := hstn
              clear hstn
              refine ⟨FSt.of hst (Imm.le.refl _) (by first | exact (List.sublist_append_right _ _).trans ((List.sublist_cons_self _ _).trans (List.sublist_cons_self _ _)) | exact ((List.sublist_append_right _ _).trans ((List.sublist_cons_self _ _).trans (List.sublist_cons_self _ _))).trans (List.sublist_append_right _ _)), ?_⟩
              obtain ⟨J62, hJ62, hstn, h62⟩ := Grow.freeze hg62 hst
              clear hst
              have hst := hstn
              clear hstn
              replace hM := hM.mono hJ62
              replace hT := hT.mono hJ62
              replace hle := hle.trans hJ62
              try simp only [List.nil_append] at h62
              replace h62 : RdL _ 2 u62 1 (hrow (hrowL (nm, Lib.decDigits K))) := h62
              have hL := h62
              refine DRW.opE rfl rfl (runs_appendRA [_, _] Tryd.underlying23 ti27 rfl (by decide) rfl rfl hst hgG hL (by decide) (by decide)) ?_
              rintro uN w ⟨LvN, hstn, hgN0⟩
              clear hst
              have hst := hstn
              clear hstn
              refine ⟨FSt.of hst hJ62 (by first | exact (List.sublist_append_right _ _).trans ((List.sublist_cons_self _ _).trans (List.sublist_cons_self _ _)) | exact ((List.sublist_append_right _ _).trans ((List.sublist_cons_self _ _).trans (List.sublist_cons_self _ _))).trans (List.sublist_append_right _ _)), ?_⟩
              have hgN : Grow 27 2 uN 3 (((bk2 nm K).map hrowL).flatMap hrow) LvN := hgN0
              replace hst : St w0 _ _ ((b10, Obj.cells (Value.agg #[.int .i64 ((cd : Int)), (.slice A2 (bk1 nm K).length cA2), .string ((strOf (b.toList.take K))), .bool ((decide (b.toList.length < K)))]).cells 29) :: (b9, Obj.cells (Value.agg #[.int .i64 ((cd : Int)), (.slice (some ⟨gG, 0, none⟩) 2 cG), .string (b), .bool (false)]).cells 29) :: (LvN ++ L)) := hst
              first
                | refine DRW.q rfl rfl (fun w' hF => runs_fieldAddr0 rfl Tryd.underlying29 rfl ti23 (by decide)) ?_
                | refine DRW.q rfl rfl (fun w' hF => runs_fieldAddr rfl Tryd.underlying29 rfl ti23 (by decide)) ?_
              refine DRW.opE0 rfl (runs_store1P ti23 rfl rfl hst (k := 1) rfl rfl (NoFz.zero _) hgN.one) ?_
              rintro w hstn
              clear hst
              have hst := hstn
              clear hstn
              try simp only [List.set_cons_zero, List.set_cons_succ] at hst
              refine ⟨FSt.of hst hJ62 (by first | exact (List.sublist_append_right _ _).trans ((List.sublist_cons_self _ _).trans (List.sublist_cons_self _ _)) | exact ((List.sublist_append_right _ _).trans ((List.sublist_cons_self _ _).trans (List.sublist_cons_self _ _))).trans (List.sublist_append_right _ _)), ?_⟩
              refine DRW.done ?_
              exact AQ.meet (_, _, _) ⟨hle, hM, hT, hst, hgN⟩ ⟨rfl, rfl, trivial⟩
            refine DRW.opE rfl rfl (runs_litF (xs := [.agg #[_, _]]) Tryd.underlying23 ti27 (by decide) rfl rfl rfl rfl rfl hst (by decide)) ?_
            rintro u65 w ⟨Lv65, hstn, hg65⟩
            clear hst
            have hst := hstn
            clear hstn
            refine ⟨FSt.of hst (Imm.le.refl _) (by first | exact (List.sublist_append_right _ _).trans ((List.sublist_cons_self _ _).trans (List.sublist_cons_self _ _)) | exact ((List.sublist_append_right _ _).trans ((List.sublist_cons_self _ _).trans (List.sublist_cons_self _ _))).trans (List.sublist_append_right _ _)), ?_⟩
            obtain ⟨J65, hJ65, hstn, h65⟩ := Grow.freeze hg65 hst
            clear hst
            have hst := hstn
            clear hstn
            replace hM := hM.mono hJ65
            replace hT := hT.mono hJ65
            replace hle := hle.trans hJ65
            try simp only [List.nil_append] at h65
            replace h65 : RdL _ 2 u65 1 (hrow (hrowL (nm, Lib.decDigits K))) := h65
            have hL := h65
            first
              | refine DRW.op1 rfl rfl (runs_load1 sc23 rfl (hst.cell_own (k := 0) rfl rfl)) (FSt.of hst hJ65 (by first | exact (List.sublist_append_right _ _).trans ((List.sublist_cons_self _ _).trans (List.sublist_cons_self _ _)) | exact ((List.sublist_append_right _ _).trans ((List.sublist_cons_self _ _).trans (List.sublist_cons_self _ _))).trans (List.sublist_append_right _ _))) ?_
              | refine DRW.op1 rfl rfl (runs_load1 sc23 rfl (hst.cell_own (k := 1) rfl rfl)) (FSt.of hst hJ65 (by first | exact (List.sublist_append_right _ _).trans ((List.sublist_cons_self _ _).trans (List.sublist_cons_self _ _)) | exact ((List.sublist_append_right _ _).trans ((List.sublist_cons_self _ _).trans (List.sublist_cons_self _ _))).trans (List.sublist_append_right _ _))) ?_
              | refine DRW.op1 rfl rfl (runs_load1 sc23 rfl (hst.cell_own (k := 2) rfl rfl)) (FSt.of hst hJ65 (by first | exact (List.sublist_append_right _ _).trans ((List.sublist_cons_self _ _).trans (List.sublist_cons_self _ _)) | exact ((List.sublist_append_right _ _).trans ((List.sublist_cons_self _ _).trans (List.sublist_cons_self _ _))).trans (List.sublist_append_right _ _))) ?_
            refine DRW.opE rfl rfl (runs_appendRA [_, _] Tryd.underlying23 ti27 rfl (by decide) rfl rfl hst hgG hL (by decide) (by decide)) ?_
            rintro uN w ⟨LvN, hstn, hgN0⟩
            clear hst
            have hst := hstn
            clear hstn
            refine ⟨FSt.of hst hJ65 (by first | exact (List.sublist_append_right _ _).trans ((List.sublist_cons_self _ _).trans (List.sublist_cons_self _ _)) | exact ((List.sublist_append_right _ _).trans ((List.sublist_cons_self _ _).trans (List.sublist_cons_self _ _))).trans (List.sublist_append_right _ _)), ?_⟩
            have hgN : Grow 27 2 uN 3 (((bk2 nm K).map hrowL).flatMap hrow) LvN := hgN0
            replace hst : St w0 _ _ ((b10, Obj.cells (Value.agg #[.int .i64 ((cd : Int)), (.slice A2 (bk1 nm K).length cA2), .string ((strOf (b.toList.take K))), .bool ((decide (b.toList.length < K)))]).cells 29) :: (b9, Obj.cells (Value.agg #[.int .i64 ((cd : Int)), (.slice (some ⟨gG, 0, none⟩) 2 cG), .string (b), .bool (false)]).cells 29) :: (LvN ++ L)) := hst
            first
              | refine DRW.q rfl rfl (fun w' hF => runs_fieldAddr0 rfl Tryd.underlying29 rfl ti23 (by decide)) ?_
              | refine DRW.q rfl rfl (fun w' hF => runs_fieldAddr rfl Tryd.underlying29 rfl ti23 (by decide)) ?_
            refine DRW.opE0 rfl (runs_store1P ti23 rfl rfl hst (k := 1) rfl rfl (NoFz.zero _) hgN.one) ?_
            rintro w hstn
            clear hst
            have hst := hstn
            clear hstn
            try simp only [List.set_cons_zero, List.set_cons_succ] at hst
            refine ⟨FSt.of hst hJ65 (by first | exact (List.sublist_append_right _ _).trans ((List.sublist_cons_self _ _).trans (List.sublist_cons_self _ _)) | exact ((List.sublist_append_right _ _).trans ((List.sublist_cons_self _ _).trans (List.sublist_cons_self _ _))).trans (List.sublist_append_right _ _)), ?_⟩
            refine DRW.done ?_
            exact AQ.meet (_, _, _) ⟨hle, hM, hT, hst, hgN⟩ ⟨rfl, rfl, trivial⟩
          · clear hle hM hT hgG
            rintro ⟨I9, uN, LvN⟩ w ⟨hle, hM, hT, hstn, hgN⟩
            dsimp only at hle hM hT hstn hgN ⊢
            clear hst
            have hst := hstn
            clear hstn
            obtain ⟨gN, cN, hcurN, rfl, rfl, _⟩ := Grow.shape hgN (by decide)
            refine AQ.next ?_
            refine CW.seq ?_
            -- region 18
            refine CW.region ?_
            first
              | refine RW.op1 rfl (runs_loadN (vs := [_, _, _, _]) ag29 ti29 rfl hst (k := 0) rfl rfl rfl) ?_
              | refine RW.op1 rfl (runs_loadN (vs := [_, _, _, _]) ag29 ti29 rfl hst (k := 1) rfl rfl rfl) ?_
              | refine RW.op1 rfl (runs_loadN (vs := [_, _, _, _]) ag29 ti29 rfl hst (k := 2) rfl rfl rfl) ?_
            refine RW.call rfl call13 rfl rfl (print_own [_, _] hst hT hgN (hs := (bk2 nm K)) rfl (cd : Int) (by omega) (by omega) hsm2 b (by omega) false) ?_
            rintro e w ⟨IA, hIA, rfl, hstn⟩
            clear hst
            have hst := hstn
            clear hstn
            rw [Int.toNat_natCast]
            replace hM := hM.mono hIA
            replace hT := hT.mono hIA
            replace hle := hle.trans hIA
            refine ⟨_, rfl, ?_⟩
            refine RW.call rfl call9 rfl rfl (parse2_spec hst hM (strOf (printL cd (bk2 nm K) b.toList)) (by rw [strOfZ]; have := printL_len hc1 hc2 hsm2 b.toList; omega)) ?_
            rintro e w ⟨IC, A3, cA3, hIC, rfl, hstn, _, _, _, _⟩
            clear hst
            have hst := hstn
            clear hstn
            rw [strOf_toList, ho2.1, ho2.2] at *
            dsimp only
            replace hM := hM.mono hIC
            replace hT := hT.mono hIC
            replace hle := hle.trans hIC
            refine ⟨_, rfl, ?_⟩
            refine RW.op1 rfl (runs_move rfl) ?_
            refine RW.op1 rfl (runs_extract rfl rfl) ?_
            refine RW.op1 rfl (runs_extract rfl rfl) ?_
            refine RW.op1 rfl (runs_assign rfl) ?_
            refine RW.done ?_
            refine AQ.next ?_
            refine CW.seq ?_
            -- region 19
            refine CW.region ?_
            refine RW.op1 rfl (runs_move rfl) ?_
            refine RW.op1 rfl (runs_eqI rfl rfl) ?_
            refine RW.op1 rfl (runs_move rfl) ?_
            have hk137 := (show decide ((2 : Int) = 2) = true by decide)
            refine RW.on_guard rfl rfl rfl rfl hk137 ?_
            refine RW.call rfl call10 rfl rfl (wakes09_spec hst hM) ?_
            rintro e w ⟨rfl, IE, hIE, hstn⟩
            clear hst
            have hst := hstn
            clear hstn
            replace hM := hM.mono hIE
            replace hT := hT.mono hIE
            replace hle := hle.trans hIE
            refine ⟨_, rfl, ?_⟩
            refine RW.op1 rfl (runs_pick_true rfl hk137 rfl) ?_
            refine RW.op1 rfl (runs_assign rfl) ?_
            refine RW.done ?_
            refine AQ.next ?_
            refine CW.ret ?_
            refine AQ.ret1 rfl rfl ?_
            exact ⟨rfl, _, hle, hst.sub ((List.sublist_append_right _ _).trans ((List.sublist_cons_self _ _).trans (List.sublist_cons_self _ _)))⟩
end Go.Proofs.YtfjghkmapccjhaaDoorX
