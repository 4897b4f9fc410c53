/- The parts of a list are those between commas. -/
import Derived.Test.YtfdgnjbbchkgpaaDoorT
import Derived.Test.YtfdgnjbbchkgpaaDoorC5
import Derived.Test.YtfdgnjbbchkgpaaDoorM2
namespace Go.Proofs.YtfdgnjbbchkgpaaDoorX
set_option linter.unusedVariables false
set_option linter.unusedSimpArgs false
open Go Go.RowKit Go.Proofs

theorem iat_get {xs : List Int} {k : Nat} (hk : k < xs.length) : iat xs (k : Int) = xs[k] := by
  unfold iat
  rw [Int.toNat_natCast, List.getD_eq_getElem?_getD, List.getElem?_eq_getElem hk]
  rfl
theorem iat_mem {l : List Int} {k : Int} (h0 : 0 ≤ k) (h1 : k < l.length) : iat l k ∈ l := by
  obtain ⟨j, rfl⟩ : ∃ j : Nat, k = (j : Int) := ⟨k.toNat, by omega⟩
  rw [iat_get (show j < l.length by omega)]
  exact List.getElem_mem _
def srcL : List (List UInt8) := [[97], [66], [120, 45, 79, 110, 101], [], [32, 32], [42]]
def wrdL : List (List UInt8) := [[97], [98], [120, 45, 111, 110, 101], [], [], [42]]
def sepL : List (List UInt8) := [[44], [32, 44], [44, 32, 32], [9, 44]]
def preL2 : List (List UInt8) := [[], [32, 32]]
def posL2 : List (List UInt8) := [[], [32], [9]]
theorem sat_at (l : List (List UInt8)) (j : Nat) : sat (l.map strOf) (j : Int) = strOf (l.getD j []) := by
  unfold sat
  rw [Int.toNat_natCast, List.getD_eq_getElem?_getD, List.getD_eq_getElem?_getD, List.getElem?_map]
  cases l[j]? <;> rfl
def CurOk (c : List UInt8) : Prop := ∀ q ∈ posL2, keepL (c ++ q) = keepL c ∧ (44 : UInt8) ∉ c ++ q
theorem cur_nil : CurOk [] := by unfold CurOk; decide +kernel
theorem cur_at : ∀ j, j < 6 → ∀ p ∈ preL2, CurOk (p ++ srcL.getD j []) ∧ keepL (p ++ srcL.getD j []) = (if wrdL.getD j [] = [] then [] else [wrdL.getD j []]) ∧ (p ++ srcL.getD j []).length ≤ 7 ∧ (wrdL.getD j []).length ≤ 5 := by unfold CurOk; decide +kernel
theorem sep_parts : ∀ s ∈ sepL, ∃ q ∈ posL2, ∃ p ∈ preL2, s = q ++ 44 :: p := by
  intro s hs
  simp only [sepL, List.mem_cons, List.not_mem_nil, or_false] at hs
  rcases hs with rfl | rfl | rfl | rfl
  · exact ⟨[], by decide, [], by decide, rfl⟩
  · exact ⟨[32], by decide, [], by decide, rfl⟩
  · exact ⟨[], by decide, [32, 32], by decide, rfl⟩
  · exact ⟨[9], by decide, [], by decide, rfl⟩
theorem sep_len : ∀ s ∈ sepL, s.length ≤ 3 := by decide
/-- What is closed by a comma. -/
def Clos (a : List UInt8) (W : List (List UInt8)) : Prop := ∀ t, partsL (a ++ t) = W ++ partsL t
theorem Clos.nil : Clos [] [] := fun t => rfl
theorem Clos.more {a c q : List UInt8} {W : List (List UInt8)} (h : Clos a W) (hc : CurOk c) (hq : q ∈ posL2) : Clos (a ++ c ++ q ++ [44]) (W ++ keepL c) := fun t => by
  obtain ⟨h1, h2⟩ := hc q hq
  have e : a ++ c ++ q ++ [44] ++ t = a ++ ((c ++ q) ++ 44 :: t) := by simp
  rw [e, h, partsL_at t h2, h1, List.append_assoc]
theorem Clos.all {a c : List UInt8} {W : List (List UInt8)} (h : Clos a W) (hc : CurOk c) : partsL (a ++ c) = W ++ keepL c := by
  have h2 := (hc [] (by decide)).2
  rw [List.append_nil] at h2
  rw [h, partsL_no h2]
theorem Clos.commas {a c : List UInt8} {W : List (List UInt8)} (h : Clos a W) (hc : CurOk c) : partsL (44 :: (a ++ c) ++ [44, 44]) = W ++ keepL c := by
  have h2 := (hc [] (by decide)).2
  rw [List.append_nil] at h2
  have e : 44 :: (a ++ c) ++ [44, 44] = [] ++ 44 :: (a ++ (c ++ 44 :: ([] ++ 44 :: []))) := by simp
  rw [e, partsL_at _ (by decide), h, partsL_at _ h2, partsL_at _ (by decide), partsL_no (by decide)]
  have h3 : keepL [] = [] := by decide +kernel
  rw [h3]
  simp
theorem comma_str (T : List UInt8) : ByteArray.mk #[44] ++ strOf T ++ ByteArray.mk #[44, 44] = strOf (44 :: T ++ [44, 44]) := by
  rw [show (ByteArray.mk #[44]) = strOf [44] from rfl, show (ByteArray.mk #[44, 44]) = strOf [44, 44] from rfl, strOf_append, strOf_append]
  rfl
set_option maxRecDepth 100000 in
set_option maxHeartbeats 4000000 in
theorem cparts_spec {w0 w : World} {I : Imm} {L : Own} (hst : St w0 w I L) (hM : MaxK I) {vl : Value} {ls : List Int} (hl : RdI I vl ls) (hls : ∀ x ∈ ls, i64ok x) (hll : ls.length ≤ 9223372036854775807) :
    Calls Tryd.prog 3 #[vl] w fun e w' => e = .returned (.bool true) ∧ ∃ I', I.le I' ∧ St w0 w' I' L := by
  refine enter Tryd.func3 rfl (N := 72) rfl rfl ?_
  simp only [List.zipIdx_cons, List.zipIdx_nil, List.map_cons, List.map_nil, Nat.zero_add, Nat.reduceAdd]
  have hle := Imm.le.refl I
  refine CW.seq ?_
  -- region 0
  refine CW.region ?_
  refine RW.op1 rfl (runs_assign rfl) ?_
  refine RW.done ?_
  refine AQ.next ?_
  refine CW.seq ?_
  -- region 1
  refine CW.region ?_
  refine RW.opE rfl (runs_lit1R Tryd.underlying23 ti9 (by decide) rfl rfl rfl (by simp [Value.oneCell']) hst) ?_
  rintro u1 w ⟨I1, hI1, hstn, h1⟩
  clear hst
  have hst := hstn
  clear hstn
  replace hM := hM.mono hI1
  replace hl := hl.mono hI1
  replace hle := hle.trans hI1
  have hS : RdS _ u1 (srcL.map strOf) := h1
  refine RW.op1 rfl (runs_assign rfl) ?_
  refine RW.done ?_
  refine AQ.next ?_
  refine CW.seq ?_
  -- region 2
  refine CW.region ?_
  refine RW.op1 rfl (runs_assign rfl) ?_
  refine RW.done ?_
  refine AQ.next ?_
  refine CW.seq ?_
  -- region 3
  refine CW.region ?_
  refine RW.op1 rfl (runs_assign rfl) ?_
  refine RW.done ?_
  refine AQ.next ?_
  refine CW.seq ?_
  refine CW.seq ?_
  -- region 4
  refine CW.region ?_
  refine RW.op1 rfl (runs_assign rfl) ?_
  refine RW.done ?_
  refine AQ.next ?_
  refine CW.block ?_
  -- loop 1
  refine CW.loop (Nat × Imm × Value × Own × List UInt8 × List UInt8 × List (List UInt8)) (fun x w => I.le x.2.1 ∧ MaxK x.2.1 ∧ RdI x.2.1 vl ls ∧ RdS x.2.1 u1 (srcL.map strOf) ∧ St w0 w x.2.1 (x.2.2.2.1 ++ L) ∧ Grow 9 1 x.2.2.1 (x.2.2.2.2.2.2 ++ keepL x.2.2.2.2.2.1).length (((x.2.2.2.2.2.2 ++ keepL x.2.2.2.2.2.1).map strOf).map Value.string) x.2.2.2.1 ∧ x.1 ≤ 8 ∧ CurOk x.2.2.2.2.2.1 ∧ Clos x.2.2.2.2.1 x.2.2.2.2.2.2 ∧ (x.2.2.2.2.1 ++ x.2.2.2.2.2.1).length ≤ 20 * x.1 ∧ (x.2.2.2.2.2.2 ++ keepL x.2.2.2.2.2.1).length ≤ x.1 ∧ (x.1 = 0 → x.2.2.2.2.1 = [] ∧ x.2.2.2.2.2.1 = [] ∧ x.2.2.2.2.2.2 = [])) (fun x => [(0, vl), (3, u1), (4, .string (strOf (x.2.2.2.2.1 ++ x.2.2.2.2.2.1))), (5, x.2.2.1), (6, .int .i64 (x.1 : Nat))]) (fun x => 8 - x.1) ⟨(0, _, _, [], [], [], []), ⟨hle, hM, hl, hS, hst, Grow.nil _ _, Nat.zero_le _, cur_nil, Clos.nil, Nat.zero_le _, (show (([] : List (List UInt8)) ++ keepL []).length ≤ 0 by decide +kernel), fun _ => ⟨rfl, rfl, rfl⟩⟩, ⟨rfl, rfl, rfl, rfl, rfl, trivial⟩⟩ ?_
  clear hle hM hl hS
  obtain ⟨v3, hv3⟩ : ∃ v, v = u1 := ⟨_, rfl⟩
  rw [← hv3]
  rintro ⟨k, I2, v2, Lv2, ca, cc, W⟩ w ⟨hle, hM, hl, hS, hstn, hg2, hk8, hcc, hcl, htl, hwl, hk00⟩
  dsimp only at hle hM hl hS hstn hg2 hk8 hcc hcl htl hwl hk00 ⊢
  clear hst
  have hst := hstn
  clear hstn
  refine CW.seq ?_
  refine CW.seq ?_
  -- region 5
  refine CW.cut Unit (fun _ w => St w0 w I2 (Lv2 ++ L)) (fun _ => [(0, vl), (3, v3), (4, .string (strOf (ca ++ cc))), (5, v2), (6, .int .i64 (k : Nat)), (16, .bool (decide (k < ls.length ∧ k < 8)))]) ?_ ?_
  · -- region 5
    refine CW.region ?_
    refine RW.op1 rfl (runs_move rfl) ?_
    refine RW.op1 rfl (runs_move rfl) ?_
    refine RW.op1 rfl (RdL.len Tryd.underlying22 rfl hl) ?_
    refine RW.op1 rfl (runs_lss rfl rfl) ?_
    refine RW.op1 rfl (runs_move rfl) ?_
    refine RW.split (t := 13) rfl (fun hb13 => ?_) (fun hb13 => ?_)
    · have hb13p := hb13
      try simp only [decide_eq_true_eq, decide_eq_false_iff_not] at hb13p
      refine RW.on_guard rfl rfl rfl rfl hb13 ?_
      refine RW.op1 rfl (runs_move rfl) ?_
      refine RW.on_guard rfl rfl rfl rfl hb13 ?_
      refine RW.op1 rfl (runs_lss rfl rfl) ?_
      refine RW.op1 rfl (runs_pick_true rfl hb13 rfl) ?_
      refine RW.done ?_
      exact AQ.meet () hst ⟨rfl, rfl, rfl, rfl, rfl, boolN (by simp only [decide_eq_true_eq, Bool.false_eq_true, false_iff]; omega), trivial⟩
    · have hb13p := hb13
      try simp only [decide_eq_true_eq, decide_eq_false_iff_not] at hb13p
      refine RW.off_guard rfl rfl rfl rfl hb13 ?_
      refine RW.off_guard rfl rfl rfl rfl hb13 ?_
      refine RW.op1 rfl (runs_pick_false rfl hb13 rfl) ?_
      refine RW.done ?_
      exact AQ.meet () hst ⟨rfl, rfl, rfl, rfl, rfl, boolN (by simp only [decide_eq_true_eq, Bool.false_eq_true, false_iff]; omega), trivial⟩
  · rintro _ w hstn
    clear hst
    have hst := hstn
    clear hstn
    refine AQ.next ?_
    refine CW.cond rfl (fun hc16 => ?_) (fun hc16 => ?_)
    · have hcb16 := hc16
      try simp only [decide_eq_true_eq, decide_eq_false_iff_not] at hc16
      have hlt : k < ls.length ∧ k < 8 := of_decide_eq_true hcb16
      have hk0 : (0 : Int) ≤ (k : Nat) := Int.natCast_nonneg k
      have hkl : ((k : Nat) : Int) < (ls.length : Nat) := by omega
      obtain ⟨x, hx⟩ : ∃ x, iat ls (k : Int) = x := ⟨_, rfl⟩
      have hxok : i64ok x := by rw [← hx, iat_get hlt.1]; exact hls _ (List.getElem_mem _)
      have r0 := within_range x 6
      have r0t := r0.2 (by decide)
      obtain ⟨j, hj⟩ : ∃ j : Nat, within x 6 = (j : Int) := ⟨(within x 6).toNat, by omega⟩
      rw [hj] at r0t r0
      have hj6 : j < 6 := by omega
      obtain ⟨j3, hj3⟩ : ∃ j, within (IntKind.i64.wrap (x.tdiv 6)) 4 = j := ⟨_, rfl⟩
      have r3 := within_range (IntKind.i64.wrap (x.tdiv 6)) 4
      rw [hj3] at r3
      have r3t := r3.2 (by decide)
      obtain ⟨sp, hsp, esp⟩ := sat_of (l := sepL) r3.1 r3t
      have hspl := sep_len sp hsp
      obtain ⟨sq, hsq, sr, hsr, hse⟩ := sep_parts sp hsp
      obtain ⟨src, hsrc⟩ : ∃ s, srcL.getD j [] = s := ⟨_, rfl⟩
      obtain ⟨wd, hwd⟩ : ∃ s, wrdL.getD j [] = s := ⟨_, rfl⟩
      have hca := cur_at j hj6
      rw [hsrc, hwd] at hca
      have es := sat_at srcL j
      rw [hsrc] at es
      have ew := sat_at wrdL j
      rw [hwd] at ew
      have hs0 : src.length ≤ 7 := by have := (hca [] (by decide)).2.2.1; simpa using this
      refine CW.skip ?_
      refine AQ.next ?_
      refine CW.seq ?_
      refine CW.block ?_
      refine CW.seq ?_
      -- region 7
      refine CW.region ?_
      refine RW.op1 rfl (runs_move rfl) ?_
      refine RW.op1 rfl (runs_move rfl) ?_
      refine RW.op1 rfl (runs_move rfl) ?_
      refine RW.op1 rfl (RdL.indexAddr Tryd.underlying22 ti3 (by decide) rfl rfl hl ⟨hk0, hkl⟩) ?_
      refine RW.op1 rfl (runs_load1 sc3 rfl (hst.cell_imm (RdI.at hl hk0 hkl))) ?_
      rw [hx]
      refine RW.call rfl call8 rfl rfl (within_spec hst (v := x) (n := 6) (hxok) (by unfold i64ok; decide)) ?_
      rintro e w ⟨rfl, hstn⟩
      clear hst
      have hst := hstn
      clear hstn
      rw [hj]
      refine ⟨_, rfl, ?_⟩
      refine RW.op1 rfl (RdL.indexAddr Tryd.underlying23 ti9 (by decide) rfl rfl hS (by show 0 ≤ (j : Int) ∧ (j : Int) < 6; omega)) ?_
      refine RW.op1 rfl (runs_load1 sc9 rfl (hst.cell_imm (RdS.at hS (by omega) (by show (j : Int) < 6; omega)))) ?_
      rw [es]
      refine RW.op1 rfl (runs_assign rfl) ?_
      refine RW.done ?_
      refine AQ.next ?_
      refine CW.seq ?_
      refine CW.seq ?_
      -- region 8
      refine CW.region ?_
      refine RW.op1 rfl (runs_move rfl) ?_
      refine RW.op1 rfl (runs_gtr rfl rfl) ?_
      refine RW.done ?_
      refine AQ.next ?_
      refine CW.cut (Imm × List UInt8 × List UInt8) (fun y w => I.le y.1 ∧ MaxK y.1 ∧ RdI y.1 vl ls ∧ RdS y.1 v3 (srcL.map strOf) ∧ St w0 w y.1 (Lv2 ++ L) ∧ y.2.2 ∈ preL2 ∧ Clos y.2.1 (W ++ keepL cc) ∧ (y.2.1 ++ y.2.2).length ≤ 20 * k + 3) (fun y => [(0, vl), (3, v3), (5, v2), (6, .int .i64 (k : Nat)), (4, .string (strOf (y.2.1 ++ y.2.2))), (7, .string (strOf src))]) ?_ ?_
      · refine CW.cond rfl (fun hc28 => ?_) (fun hc28 => ?_)
        · have hcb28 := hc28
          try simp only [decide_eq_true_eq, decide_eq_false_iff_not] at hc28
          -- region 9
          refine CW.region ?_
          refine RW.op1 rfl (runs_move rfl) ?_
          refine RW.opE rfl (runs_lit1R Tryd.underlying23 ti9 (by decide) rfl rfl rfl (by simp [Value.oneCell']) hst) ?_
          rintro u3 w ⟨I3, hI3, hstn, h3⟩
          clear hst
          have hst := hstn
          clear hstn
          replace hM := hM.mono hI3
          replace hl := hl.mono hI3
          replace hS := hS.mono hI3
          replace hle := hle.trans hI3
          have hP : RdS _ u3 (sepL.map strOf) := h3
          refine RW.op1 rfl (runs_move rfl) ?_
          refine RW.op1 rfl (runs_move rfl) ?_
          refine RW.op1 rfl (RdL.indexAddr Tryd.underlying22 ti3 (by decide) rfl rfl hl ⟨hk0, hkl⟩) ?_
          refine RW.op1 rfl (runs_load1 sc3 rfl (hst.cell_imm (RdI.at hl hk0 hkl))) ?_
          rw [hx]
          refine RW.op1 rfl (runs_quo rfl rfl (by decide)) ?_
          refine RW.call rfl call8 rfl rfl (within_spec hst (v := IntKind.i64.wrap (x.tdiv 6)) (n := 4) (wrap_ok _) (by unfold i64ok; decide)) ?_
          rintro e w ⟨rfl, hstn⟩
          clear hst
          have hst := hstn
          clear hstn
          rw [hj3]
          refine ⟨_, rfl, ?_⟩
          refine RW.op1 rfl (RdL.indexAddr Tryd.underlying23 ti9 (by decide) rfl rfl hP (by show 0 ≤ j3 ∧ j3 < 4; omega)) ?_
          refine RW.op1 rfl (runs_load1 sc9 rfl (hst.cell_imm (RdS.at hP r3.1 r3t))) ?_
          rw [esp]
          refine RW.op1 rfl (runs_addS rfl rfl (by rw [strOfZ, strOfZ]; omega)) ?_
          rw [strOf_append]
          refine RW.op1 rfl (runs_assign rfl) ?_
          refine RW.done ?_
          first
            | exact AQ.meet (_, ca ++ cc ++ sq ++ [44], sr) ⟨hle, hM, hl, hS, hst, hsr, hcl.more hcc hsq, by simp [hse] at hspl ⊢; simp at htl; omega⟩ ⟨rfl, rfl, rfl, rfl, (by rw [hse]; simp [List.append_assoc]; rfl), rfl, trivial⟩
            | exact AQ.meet (_, [], []) ⟨hle, hM, hl, hS, hst, (show ([] : List UInt8) ∈ preL2 by decide), (by obtain ⟨h1, h2, h3⟩ := hk00 (by omega); rw [h2, h3]; exact fun t => (by rw [show keepL [] = [] by decide +kernel]; rfl)), Nat.zero_le _⟩ ⟨rfl, rfl, rfl, rfl, (by obtain ⟨h1, h2, h3⟩ := hk00 (by omega); rw [h1, h2]; rfl), rfl, trivial⟩
        · have hcb28 := hc28
          try simp only [decide_eq_true_eq, decide_eq_false_iff_not] at hc28
          refine CW.skip ?_
          first
            | exact AQ.meet (_, ca ++ cc ++ sq ++ [44], sr) ⟨hle, hM, hl, hS, hst, hsr, hcl.more hcc hsq, by simp [hse] at hspl ⊢; simp at htl; omega⟩ ⟨rfl, rfl, rfl, rfl, (by rw [hse]; simp [List.append_assoc]; rfl), rfl, trivial⟩
            | exact AQ.meet (_, [], []) ⟨hle, hM, hl, hS, hst, (show ([] : List UInt8) ∈ preL2 by decide), (by obtain ⟨h1, h2, h3⟩ := hk00 (by omega); rw [h2, h3]; exact fun t => (by rw [show keepL [] = [] by decide +kernel]; rfl)), Nat.zero_le _⟩ ⟨rfl, rfl, rfl, rfl, (by obtain ⟨h1, h2, h3⟩ := hk00 (by omega); rw [h1, h2]; rfl), rfl, trivial⟩
      · clear hle hM hl hS
        rintro ⟨I3, cd, pr⟩ w ⟨hle, hM, hl, hS, hstn, hpr, hcl2, hcz⟩
        dsimp only at hle hM hl hS hstn hpr hcl2 hcz ⊢
        clear hst
        have hst := hstn
        clear hstn
        obtain ⟨hcu, hkp, hpl, hwl2⟩ := hca pr hpr
        refine AQ.next ?_
        refine CW.seq ?_
        -- region 10
        refine CW.region ?_
        refine RW.op1 rfl (runs_move rfl) ?_
        refine RW.op1 rfl (runs_move rfl) ?_
        refine RW.op1 rfl (runs_addS rfl rfl (by rw [strOfZ, strOfZ]; omega)) ?_
        rw [strOf_append, List.append_assoc]
        refine RW.op1 rfl (runs_assign rfl) ?_
        refine RW.done ?_
        refine AQ.next ?_
        refine CW.seq ?_
        -- region 11
        refine CW.region ?_
        refine RW.opE rfl (runs_lit1R Tryd.underlying23 ti9 (by decide) rfl rfl rfl (by simp [Value.oneCell']) hst) ?_
        rintro u5 w ⟨I5, hI5, hstn, h5⟩
        clear hst
        have hst := hstn
        clear hstn
        replace hM := hM.mono hI5
        replace hl := hl.mono hI5
        replace hS := hS.mono hI5
        replace hle := hle.trans hI5
        have hW : RdS _ u5 (wrdL.map strOf) := h5
        refine RW.op1 rfl (runs_move rfl) ?_
        refine RW.op1 rfl (runs_move rfl) ?_
        refine RW.op1 rfl (RdL.indexAddr Tryd.underlying22 ti3 (by decide) rfl rfl hl ⟨hk0, hkl⟩) ?_
        refine RW.op1 rfl (runs_load1 sc3 rfl (hst.cell_imm (RdI.at hl hk0 hkl))) ?_
        rw [hx]
        refine RW.call rfl call8 rfl rfl (within_spec hst (v := x) (n := 6) (hxok) (by unfold i64ok; decide)) ?_
        rintro e w ⟨rfl, hstn⟩
        clear hst
        have hst := hstn
        clear hstn
        rw [hj]
        refine ⟨_, rfl, ?_⟩
        refine RW.op1 rfl (RdL.indexAddr Tryd.underlying23 ti9 (by decide) rfl rfl hW (by show 0 ≤ (j : Int) ∧ (j : Int) < 6; omega)) ?_
        refine RW.op1 rfl (runs_load1 sc9 rfl (hst.cell_imm (RdS.at hW (by omega) (by show (j : Int) < 6; omega)))) ?_
        rw [ew]
        refine RW.op1 rfl (runs_assign rfl) ?_
        refine RW.done ?_
        refine AQ.next ?_
        refine CW.seq ?_
        -- region 12
        refine CW.region ?_
        refine RW.op1 rfl (runs_move rfl) ?_
        refine RW.op1 rfl (runs_neS rfl rfl) ?_
        refine RW.done ?_
        refine AQ.next ?_
        refine CW.cond rfl (fun hc52 => ?_) (fun hc52 => ?_)
        · have hcb52 := hc52
          try simp only [decide_eq_true_eq, decide_eq_false_iff_not] at hc52
          have h52 : wd ≠ [] := by rw [emptyL, strOf_toList] at hcb52; simpa using hcb52
          -- region 13
          refine CW.region ?_
          refine RW.op1 rfl (runs_move rfl) ?_
          refine RW.op1 rfl (runs_move rfl) ?_
          refine RW.opE rfl (runs_lit1R (xs := [Value.string (strOf wd)]) Tryd.underlying23 ti9 (by decide) rfl rfl rfl (by simp [Value.oneCell']) hst) ?_
          rintro u7 w ⟨I7, hI7, hstn, h7⟩
          clear hst
          have hst := hstn
          clear hstn
          replace hM := hM.mono hI7
          replace hl : RdI _ _ _ := RdL.mono hI7 hl
          replace hS := RdS.mono hS hI7
          replace hle := hle.trans hI7
          have hD : RdL _ 1 u7 1 [Value.string (strOf wd)] := h7
          refine RW.opE rfl (runs_appendR Tryd.underlying23 ti9 rfl (by decide) rfl rfl hst hg2 hD (by omega) (by unfold maxLen; omega)) ?_
          rintro uN w ⟨LvN, hstn, hgN⟩
          clear hst
          have hst := hstn
          clear hstn
          refine RW.op1 rfl (runs_assign rfl) ?_
          refine RW.done ?_
          refine AQ.block_normal ?_
          refine AQ.next ?_
          -- region 6
          refine CW.region ?_
          refine RW.op1 rfl (runs_move rfl) ?_
          refine RW.op1 rfl (runs_add rfl rfl (by omega)) ?_
          refine RW.op1 rfl (runs_assign rfl) ?_
          refine RW.done ?_
          exact AQ.again (x := (k, I2, v2, Lv2, ca, cc, W)) (k + 1, _, uN, LvN, cd, pr ++ src, W ++ keepL cc) ⟨hle, hM, hl, hS, hst, by
            dsimp only
            rw [hkp, if_neg h52, List.map_append, List.map_append, List.length_append]
            exact hgN, by dsimp only; omega, hcu, hcl2, by simp only [List.length_append] at *; omega, by dsimp only; rw [hkp, if_neg h52, List.length_append, List.length_singleton]; omega, (fun h => by cases h)⟩ ⟨rfl, rfl, rfl, rfl, rfl, trivial⟩ (by dsimp only; omega)
        · have hcb52 := hc52
          try simp only [decide_eq_true_eq, decide_eq_false_iff_not] at hc52
          have h52 : wd = [] := by rw [emptyL, strOf_toList] at hcb52; simpa using hcb52
          refine CW.skip ?_
          refine AQ.block_normal ?_
          refine AQ.next ?_
          -- region 6
          refine CW.region ?_
          refine RW.op1 rfl (runs_move rfl) ?_
          refine RW.op1 rfl (runs_add rfl rfl (by omega)) ?_
          refine RW.op1 rfl (runs_assign rfl) ?_
          refine RW.done ?_
          exact AQ.again (x := (k, I2, v2, Lv2, ca, cc, W)) (k + 1, _, v2, Lv2, cd, pr ++ src, W ++ keepL cc) ⟨hle, hM, hl, hS, hst, by
            dsimp only
            rw [hkp, if_pos h52, List.append_nil]
            exact hg2, by dsimp only; omega, hcu, hcl2, by simp only [List.length_append] at *; omega, by dsimp only; rw [hkp, if_pos h52, List.append_nil]; omega, (fun h => by cases h)⟩ ⟨rfl, rfl, rfl, rfl, rfl, trivial⟩ (by dsimp only; omega)
    · have hcb16 := hc16
      try simp only [decide_eq_true_eq, decide_eq_false_iff_not] at hc16
      skip
      refine CW.exit ?_
      refine AQ.past_exit ?_
      refine AQ.past_exit ?_
      refine AQ.block_hit ?_
      refine AQ.next ?_
      refine CW.seq ?_
      -- region 14
      refine CW.region ?_
      obtain ⟨I9, hI9, hst9, hv9⟩ := hg2.freeze hst
      clear hst
      have hst := hst9
      clear hst9
      replace hM := hM.mono hI9
      replace hle := hle.trans hI9
      replace hv9 : RdS I9 v2 ((W ++ keepL cc).map strOf) := by
        unfold RdS
        rw [List.length_map]
        exact hv9
      refine RW.op1 rfl (runs_move rfl) ?_
      refine RW.call rfl call10 rfl rfl (list_spec hst hM (strOf (ca ++ cc)) (by rw [strOfZ]; omega)) ?_
      rintro e w ⟨I9, vA, hI9, rfl, hA, hstn⟩
      clear hst
      have hst := hstn
      clear hstn
      rw [strOf_toList, hcl.all hcc] at hA
      replace hM := hM.mono hI9
      replace hv9 := hv9.mono hI9
      replace hle := hle.trans hI9
      refine ⟨_, rfl, ?_⟩
      refine RW.op1 rfl (runs_move rfl) ?_
      refine RW.call rfl call9 rfl rfl (sameS_spec hst hA hv9 (by rw [List.length_map]; omega)) ?_
      rintro e w ⟨rfl, hstn⟩
      clear hst
      have hst := hstn
      clear hstn
      refine ⟨_, rfl, ?_⟩
      refine RW.op1 rfl (runs_move rfl) ?_
      have hk61 := (show true = true from rfl)
      refine RW.on_guard rfl rfl rfl rfl hk61 ?_
      refine RW.op1 rfl (runs_move rfl) ?_
      refine RW.on_guard rfl rfl rfl rfl hk61 ?_
      refine RW.op1 rfl (runs_addS rfl rfl (by show 1 + (strOf _).size ≤ _; rw [strOfZ]; omega)) ?_
      refine RW.on_guard rfl rfl rfl rfl hk61 ?_
      refine RW.op1 rfl (runs_addS rfl rfl (by rw [ByteArray.size_append, strOfZ]; show 1 + _ + 2 ≤ _; omega)) ?_
      rw [comma_str]
      refine RW.on_guard rfl rfl rfl rfl hk61 ?_
      refine RW.call rfl call10 rfl rfl (list_spec hst hM (strOf (44 :: (ca ++ cc) ++ [44, 44])) (by rw [strOfZ]; simp only [List.length_append, List.length_cons, List.length_nil] at *; omega)) ?_
      rintro e w ⟨I11, vB, hI11, rfl, hB, hstn⟩
      clear hst
      have hst := hstn
      clear hstn
      rw [strOf_toList, hcl.commas hcc] at hB
      replace hM := hM.mono hI11
      replace hv9 := hv9.mono hI11
      replace hA := hA.mono hI11
      replace hle := hle.trans hI11
      refine ⟨_, rfl, ?_⟩
      refine RW.on_guard rfl rfl rfl rfl hk61 ?_
      refine RW.op1 rfl (runs_move rfl) ?_
      refine RW.on_guard rfl rfl rfl rfl hk61 ?_
      refine RW.call rfl call9 rfl rfl (sameS_spec hst hB hv9 (by rw [List.length_map]; omega)) ?_
      rintro e w ⟨rfl, hstn⟩
      clear hst
      have hst := hstn
      clear hstn
      refine ⟨_, rfl, ?_⟩
      refine RW.op1 rfl (runs_pick_true rfl hk61 rfl) ?_
      refine RW.op1 rfl (runs_move rfl) ?_
      have hk69 := (show true = true from rfl)
      refine RW.on_guard rfl rfl rfl rfl hk69 ?_
      refine RW.call rfl call11 rfl rfl (wakes13_spec hst hM) ?_
      rintro e w ⟨rfl, I13, hI13, hstn⟩
      clear hst
      have hst := hstn
      clear hstn
      replace hM := hM.mono hI13
      replace hv9 := hv9.mono hI13
      replace hA := hA.mono hI13
      replace hB := hB.mono hI13
      replace hle := hle.trans hI13
      refine ⟨_, rfl, ?_⟩
      refine RW.op1 rfl (runs_pick_true rfl hk69 rfl) ?_
      refine RW.op1 rfl (runs_assign rfl) ?_
      refine RW.done ?_
      refine AQ.next ?_
      refine CW.ret ?_
      refine AQ.ret1 rfl rfl ?_
      exact ⟨rfl, _, hle, hst⟩
end Go.Proofs.YtfdgnjbbchkgpaaDoorX
