/- One header, the headers, the body of an answer: what these come to. -/
import Derived.Test.YtfjghkmapccjhaaDoorT
import Derived.Test.YtfjghkmapccjhaaDoorK4
namespace Go.Proofs.YtfjghkmapccjhaaDoorX
set_option linter.unusedVariables false
set_option linter.unusedSimpArgs false
open Go Go.RowKit Go.Proofs

set_option maxRecDepth 100000 in
set_option maxHeartbeats 1000000 in
theorem one_spec {w0 w : World} {I : Imm} {L : Own} (hst : St w0 w I L) (s : ByteArray) (hs : s.size ≤ 9223372036854775807) :
    Calls Tryd.prog 39 #[.string s] w fun e w' => ∃ n v ok, e = .returned (.tuple #[.agg #[.string (strOf n), .string (strOf v)], .bool ok]) ∧ oneL s.toList = (if ok = true then some (n, v) else none) ∧ n.length ≤ s.size ∧ v.length ≤ s.size ∧ St w0 w' I L := by
  have hz := size_toList s
  have hx := cutL_len s.toList 58
  refine enter Tryd.func39 rfl (N := 30) rfl rfl ?_
  simp only [List.zipIdx_cons, List.zipIdx_nil, List.map_cons, List.map_nil, Nat.zero_add, Nat.reduceAdd]
  have hle := Imm.le.refl I
  refine CW.seq ?_
  -- region 0
  refine CW.region ?_
  refine RW.opE rfl (runs_alloc ti27 hst) ?_
  rintro _ w ⟨b1, rfl, hstn⟩
  clear hst
  have hst := hstn
  clear hstn
  refine RW.op1 rfl (runs_assign rfl) ?_
  refine RW.done ?_
  refine AQ.next ?_
  refine CW.seq ?_
  -- region 1
  refine CW.region ?_
  refine RW.op1 rfl (runs_move rfl) ?_
  refine RW.call rfl call21 rfl rfl (cut1_spec hst s 58 hs) ?_
  rintro e w ⟨rfl, hstn⟩
  clear hst
  have hst := hstn
  clear hstn
  generalize hxx : cutL s.toList 58 = x at hx ⊢
  obtain ⟨n, v, b⟩ := x
  dsimp only at hx ⊢
  have htv : (Lib.trimB v 32).length ≤ v.length := by
    rw [← trim_swap]
    unfold Lib.trimRightB Lib.trimLeftB
    rw [List.length_reverse]
    have h1 := (List.dropWhile_sublist (fun x => x == (32 : UInt8)) (l := (v.dropWhile (fun x => x == (32 : UInt8))).reverse)).length_le
    have h2 := (List.dropWhile_sublist (fun x => x == (32 : UInt8)) (l := v)).length_le
    rw [List.length_reverse] at h1
    omega
  have ho : oneL s.toList = if (b = true ∧ nmOk n = true ∧ vlOk (Lib.trimB v 32) = true) then some (n, Lib.trimB v 32) else none := by unfold oneL; rw [hxx]
  refine ⟨_, rfl, ?_⟩
  refine RW.op1 rfl (runs_move rfl) ?_
  refine RW.op1 rfl (runs_extract rfl rfl) ?_
  refine RW.op1 rfl (runs_extract rfl rfl) ?_
  refine RW.op1 rfl (runs_extract rfl rfl) ?_
  refine RW.op1 rfl (runs_assign rfl) ?_
  refine RW.op1 rfl (runs_assign rfl) ?_
  refine RW.op1 rfl (runs_assign rfl) ?_
  refine RW.done ?_
  refine AQ.next ?_
  refine CW.seq ?_
  -- region 2
  refine CW.region ?_
  refine RW.op1 rfl (runs_move rfl) ?_
  refine RW.op1 rfl (runs_move rfl) ?_
  refine RW.call rfl call45 rfl rfl (trim1_spec hst (strOf v) (by rw [strOfZ]; omega)) ?_
  rintro e w ⟨rfl, hstn⟩
  clear hst
  have hst := hstn
  clear hstn
  rw [strOf_toList]
  generalize Lib.trimB v 32 = tv at ho htv ⊢
  refine ⟨_, rfl, ?_⟩
  refine RW.op1 rfl (runs_buildF (cells := [_, _]) bz27 rfl rfl rfl rfl rfl) ?_
  refine RW.opE rfl (runs_alloc ti27 hst) ?_
  rintro _ w ⟨b4, rfl, hstn⟩
  clear hst
  have hst := hstn
  clear hstn
  replace hst := hst.perm (List.Perm.swap _ _ _)
  first
    | refine RW.opE0 (runs_storeW ti27 rfl rfl hst (k := 0) rfl rfl rfl (NoFz.zero _) rfl) ?_
    | refine RW.opE0 (runs_storeP ti27 rfl rfl hst (k := 0) rfl rfl rfl (NoFz.zero _) rfl) ?_
    | refine RW.opE0 (runs_storeW ti27 rfl rfl hst (k := 1) rfl rfl rfl (NoFz.zero _) rfl) ?_
    | refine RW.opE0 (runs_storeP ti27 rfl rfl hst (k := 1) rfl rfl rfl (NoFz.zero _) rfl) ?_
    | refine RW.opE0 (runs_storeW ti27 rfl rfl hst (k := 2) rfl rfl rfl (NoFz.zero _) rfl) ?_
    | refine RW.opE0 (runs_storeP ti27 rfl rfl hst (k := 2) rfl rfl rfl (NoFz.zero _) rfl) ?_
  rintro w hstn
  clear hst
  have hst := hstn
  clear hstn
  try simp only [List.set_cons_zero, List.set_cons_succ] at hst
  refine RW.done ?_
  refine AQ.next ?_
  refine CW.seq ?_
  -- region 3
  refine CW.draw (FSt w0 I ((b4, .cells #[.string (strOf n), .string (strOf tv)] 27) :: L)) (.q 0 (.q 1 (.q 2 (.q 3 (.q 4 (.l 5 (.q 6 (.q 7 (.q 8 (.q 9 (.l 10 (.q 11 (.l 12 (.q 13 .nil)))))))))))))) follows (by kernel_rfl) ⟨_, Imm.le.refl _, hst.draw.sub (List.sublist_cons_self _ _)⟩ ?_
  replace hst := hst.draw
  refine DRW.q rfl rfl (FSt.loadN (vs := [.string (strOf n), .string (strOf tv)]) ag27 ti27 rfl (k := 0) rfl rfl rfl) ?_
  refine DRW.q rfl rfl (fun w' hF => runs_move rfl) ?_
  refine DRW.q rfl rfl (fun w' hF => runs_move rfl) ?_
  refine DRW.split (t := 20) rfl (fun hb20 => ?_) (fun hb20 => ?_)
  · have hb20p := hb20
    try simp only [decide_eq_true_eq, decide_eq_false_iff_not] at hb20p
    first
      | refine DRW.q_on rfl rfl rfl rfl hb20 rfl (fun w' hF => runs_fieldAddr0 rfl Tryd.underlying27 rfl ti9 (by decide)) ?_
      | refine DRW.q_on rfl rfl rfl rfl hb20 rfl (fun w' hF => runs_fieldAddr rfl Tryd.underlying27 rfl ti9 (by decide)) ?_
    refine DRW.q_on rfl rfl rfl rfl hb20 rfl (FSt.load1_own (v := .string (strOf n)) sc9 rfl (k := 0) rfl rfl) ?_
    refine DRW.call_on rfl rfl rfl rfl hb20 rfl call46 rfl rfl (rname_spec hst (strOf n) (by rw [strOfZ]; omega)) ?_
    rintro e w ⟨rfl, hstn⟩
    clear hst
    have hst := hstn
    clear hstn
    rw [strOf_toList]
    refine ⟨_, rfl, FSt.of hst (Imm.le.refl _) (List.sublist_cons_self _ _), ?_⟩
    refine DRW.q rfl rfl (fun w' hF => runs_pick_true rfl hb20 rfl) ?_
    refine DRW.q rfl rfl (fun w' hF => runs_move rfl) ?_
    refine DRW.split (t := 25) rfl (fun hb25 => ?_) (fun hb25 => ?_)
    · have hb25p := hb25
      try simp only [decide_eq_true_eq, decide_eq_false_iff_not] at hb25p
      first
        | refine DRW.q_on rfl rfl rfl rfl hb25 rfl (fun w' hF => runs_fieldAddr0 rfl Tryd.underlying27 rfl ti9 (by decide)) ?_
        | refine DRW.q_on rfl rfl rfl rfl hb25 rfl (fun w' hF => runs_fieldAddr rfl Tryd.underlying27 rfl ti9 (by decide)) ?_
      refine DRW.q_on rfl rfl rfl rfl hb25 rfl (FSt.load1_own (v := .string (strOf tv)) sc9 rfl (k := 0) rfl rfl) ?_
      refine DRW.call_on rfl rfl rfl rfl hb25 rfl call47 rfl rfl (rvalue_spec hst (strOf tv) (by rw [strOfZ]; omega)) ?_
      rintro e w ⟨rfl, hstn⟩
      clear hst
      have hst := hstn
      clear hstn
      rw [strOf_toList]
      refine ⟨_, rfl, FSt.of hst (Imm.le.refl _) (List.sublist_cons_self _ _), ?_⟩
      refine DRW.q rfl rfl (fun w' hF => runs_pick_true rfl hb25 rfl) ?_
      first
        | refine DRW.opE0 rfl (runs_storeW ti27 rfl rfl hst (k := 0) rfl rfl rfl (NoFz.zero _) rfl) ?_
        | refine DRW.opE0 rfl (runs_storeP ti27 rfl rfl hst (k := 0) rfl rfl rfl (NoFz.zero _) rfl) ?_
        | refine DRW.opE0 rfl (runs_storeW ti27 rfl rfl hst (k := 1) rfl rfl rfl (NoFz.zero _) rfl) ?_
        | refine DRW.opE0 rfl (runs_storeP ti27 rfl rfl hst (k := 1) rfl rfl rfl (NoFz.zero _) rfl) ?_
        | refine DRW.opE0 rfl (runs_storeW ti27 rfl rfl hst (k := 2) rfl rfl rfl (NoFz.zero _) rfl) ?_
        | refine DRW.opE0 rfl (runs_storeP ti27 rfl rfl hst (k := 2) rfl rfl rfl (NoFz.zero _) rfl) ?_
      rintro w hstn
      clear hst
      have hst := hstn
      clear hstn
      try simp only [List.set_cons_zero, List.set_cons_succ] at hst
      refine ⟨FSt.of hst (Imm.le.refl _) (List.sublist_cons_self _ _), ?_⟩
      refine DRW.q rfl rfl (fun w' hF => runs_assign rfl) ?_
      refine DRW.done ?_
      refine AQ.next ?_
      refine CW.ret ?_
      refine AQ.retL (rs := [.cell 2 27, .tmp 3]) (vs := [_, _]) rfl ⟨⟨_, rfl, hst.loadN (vs := [_, _]) (k := 0) ag27 ti27 rfl rfl rfl⟩, rfl, trivial⟩ (by simp) ?_
      refine ⟨n, tv, _, rfl, ?_, by omega, by omega, hst.drop1.drop1⟩
      rw [ho]
      first
        | (simp only [hb20, hb25, true_and]; done)
        | (rw [if_neg (by simp_all), if_neg (by simp_all)])
        | simp_all
    · have hb25p := hb25
      try simp only [decide_eq_true_eq, decide_eq_false_iff_not] at hb25p
      refine DRW.q_off rfl rfl rfl rfl hb25 rfl ?_
      refine DRW.q_off rfl rfl rfl rfl hb25 rfl ?_
      refine DRW.l_off rfl rfl rfl rfl hb25 rfl ?_
      refine DRW.q rfl rfl (fun w' hF => runs_pick_false rfl hb25 rfl) ?_
      first
        | refine DRW.opE0 rfl (runs_storeW ti27 rfl rfl hst (k := 0) rfl rfl rfl (NoFz.zero _) rfl) ?_
        | refine DRW.opE0 rfl (runs_storeP ti27 rfl rfl hst (k := 0) rfl rfl rfl (NoFz.zero _) rfl) ?_
        | refine DRW.opE0 rfl (runs_storeW ti27 rfl rfl hst (k := 1) rfl rfl rfl (NoFz.zero _) rfl) ?_
        | refine DRW.opE0 rfl (runs_storeP ti27 rfl rfl hst (k := 1) rfl rfl rfl (NoFz.zero _) rfl) ?_
        | refine DRW.opE0 rfl (runs_storeW ti27 rfl rfl hst (k := 2) rfl rfl rfl (NoFz.zero _) rfl) ?_
        | refine DRW.opE0 rfl (runs_storeP ti27 rfl rfl hst (k := 2) rfl rfl rfl (NoFz.zero _) rfl) ?_
      rintro w hstn
      clear hst
      have hst := hstn
      clear hstn
      try simp only [List.set_cons_zero, List.set_cons_succ] at hst
      refine ⟨FSt.of hst (Imm.le.refl _) (List.sublist_cons_self _ _), ?_⟩
      refine DRW.q rfl rfl (fun w' hF => runs_assign rfl) ?_
      refine DRW.done ?_
      refine AQ.next ?_
      refine CW.ret ?_
      refine AQ.retL (rs := [.cell 2 27, .tmp 3]) (vs := [_, _]) rfl ⟨⟨_, rfl, hst.loadN (vs := [_, _]) (k := 0) ag27 ti27 rfl rfl rfl⟩, rfl, trivial⟩ (by simp) ?_
      refine ⟨n, tv, _, rfl, ?_, by omega, by omega, hst.drop1.drop1⟩
      rw [ho]
      first
        | (simp only [hb20, hb25, true_and]; done)
        | (rw [if_neg (by simp_all), if_neg (by simp_all)])
        | simp_all
  · have hb20p := hb20
    try simp only [decide_eq_true_eq, decide_eq_false_iff_not] at hb20p
    refine DRW.q_off rfl rfl rfl rfl hb20 rfl ?_
    refine DRW.q_off rfl rfl rfl rfl hb20 rfl ?_
    refine DRW.l_off rfl rfl rfl rfl hb20 rfl ?_
    refine DRW.q rfl rfl (fun w' hF => runs_pick_false rfl hb20 rfl) ?_
    refine DRW.q rfl rfl (fun w' hF => runs_move rfl) ?_
    refine DRW.q_off rfl rfl rfl rfl rfl rfl ?_
    refine DRW.q_off rfl rfl rfl rfl rfl rfl ?_
    refine DRW.l_off rfl rfl rfl rfl rfl rfl ?_
    refine DRW.q rfl rfl (fun w' hF => runs_pick_false rfl rfl rfl) ?_
    first
      | refine DRW.opE0 rfl (runs_storeW ti27 rfl rfl hst (k := 0) rfl rfl rfl (NoFz.zero _) rfl) ?_
      | refine DRW.opE0 rfl (runs_storeP ti27 rfl rfl hst (k := 0) rfl rfl rfl (NoFz.zero _) rfl) ?_
      | refine DRW.opE0 rfl (runs_storeW ti27 rfl rfl hst (k := 1) rfl rfl rfl (NoFz.zero _) rfl) ?_
      | refine DRW.opE0 rfl (runs_storeP ti27 rfl rfl hst (k := 1) rfl rfl rfl (NoFz.zero _) rfl) ?_
      | refine DRW.opE0 rfl (runs_storeW ti27 rfl rfl hst (k := 2) rfl rfl rfl (NoFz.zero _) rfl) ?_
      | refine DRW.opE0 rfl (runs_storeP ti27 rfl rfl hst (k := 2) rfl rfl rfl (NoFz.zero _) rfl) ?_
    rintro w hstn
    clear hst
    have hst := hstn
    clear hstn
    try simp only [List.set_cons_zero, List.set_cons_succ] at hst
    refine ⟨FSt.of hst (Imm.le.refl _) (List.sublist_cons_self _ _), ?_⟩
    refine DRW.q rfl rfl (fun w' hF => runs_assign rfl) ?_
    refine DRW.done ?_
    refine AQ.next ?_
    refine CW.ret ?_
    refine AQ.retL (rs := [.cell 2 27, .tmp 3]) (vs := [_, _]) rfl ⟨⟨_, rfl, hst.loadN (vs := [_, _]) (k := 0) ag27 ti27 rfl rfl rfl⟩, rfl, trivial⟩ (by simp) ?_
    refine ⟨n, tv, _, rfl, ?_, by omega, by omega, hst.drop1.drop1⟩
    rw [ho]
    first
      | (simp only [hb20, hb25, true_and]; done)
      | (rw [if_neg (by simp_all), if_neg (by simp_all)])
      | simp_all
theorem cut_three (l : List UInt8) : ∃ a b fd, Lib.cut l crL = (a, b, fd) ∧ lineL l = (if fd = true then some (a, b) else none) ∧ a.length ≤ l.length ∧ (fd = true → b.length + 2 ≤ l.length) ∧ (fd = true → a.length < l.length) ∧ (fd = false → a.length = l.length) := by
  rw [cut_line]
  cases h : lineL l with
  | none => exact ⟨l, [], false, rfl, rfl, Nat.le_refl _, (fun h => by cases h), (fun h => by cases h), fun _ => rfl⟩
  | some x =>
    obtain ⟨a, b⟩ := x
    have h2 := congrArg List.length (lineL_len h).1
    simp only [List.length_append, List.length_cons] at h2
    exact ⟨a, b, true, rfl, rfl, by omega, fun _ => by omega, fun _ => by omega, fun h => by cases h⟩
theorem lines_none {f : Nat} {s : List UInt8} (h : lineL s = none) : linesL f s = none := by
  unfold linesL
  rw [h]
theorem lines_last {f : Nat} {s b : List UInt8} (h : lineL s = some ([], b)) : linesL f s = some ([], b) := by
  unfold linesL
  rw [h]
  rfl
theorem lines_bad {f : Nat} {s a b : List UInt8} (h : lineL s = some (a, b)) (ha : a ≠ []) (ho : oneL a = none ∨ f = 0) : linesL f s = none := by
  unfold linesL
  rw [h]
  dsimp only
  rw [if_neg ha]
  rcases ho with ho | rfl
  · rw [ho]
  · cases oneL a <;> rfl
theorem lines_next {f : Nat} {s a b : List UInt8} {x : HL} (h : lineL s = some (a, b)) (ha : a ≠ []) (ho : oneL a = some x) : linesL (f + 1) s = (linesL f b).map fun y => (x :: y.1, y.2) := by
  conv => lhs; unfold linesL
  rw [h]
  dsimp only
  rw [if_neg ha, ho]
set_option maxRecDepth 100000 in
set_option maxHeartbeats 1000000 in
theorem lines_spec {w0 w : World} {I : Imm} {L : Own} (hst : St w0 w I L) (hM : MaxK I) (s : ByteArray) (hs : s.size < 4294967281) :
    Calls Tryd.prog 23 #[.string s] w fun e w' => ∃ I' v rest ok, Imm.le I I' ∧ e = .returned (.tuple #[v, .string rest, .bool ok]) ∧ St w0 w' I' L ∧ (linesL 8 s.toList = none ∧ ok = false ∨ ∃ hs r, linesL 8 s.toList = some (hs, r) ∧ ok = true ∧ RdH I' v (hs.map hrowL) ∧ rest = strOf r ∧ r.length ≤ s.size) := by
  have hz := size_toList s
  obtain ⟨R, hR⟩ : ∃ R, linesL 8 s.toList = R := ⟨_, rfl⟩
  rw [hR]
  refine enter Tryd.func23 rfl (N := 39) rfl rfl ?_
  simp only [List.zipIdx_cons, List.zipIdx_nil, List.map_cons, List.map_nil, Nat.zero_add, Nat.reduceAdd]
  have hle := Imm.le.refl I
  refine CW.seq ?_
  -- region 0
  refine CW.region ?_
  refine RW.op1 rfl (runs_assign rfl) ?_
  refine RW.op1 rfl (runs_assign rfl) ?_
  refine RW.op1 rfl (runs_assign rfl) ?_
  refine RW.done ?_
  refine AQ.next ?_
  refine CW.block ?_
  -- loop 1
  refine CW.loop (Nat × Imm × Value × Own × List HL × List UInt8) (fun x w => I.le x.2.1 ∧ MaxK x.2.1 ∧ St w0 w x.2.1 (x.2.2.2.1 ++ L) ∧ Grow 27 2 x.2.2.1 x.2.2.2.2.1.length ((x.2.2.2.2.1.map hrowL).flatMap hrow) x.2.2.2.1 ∧ x.2.2.2.2.1.length + x.1 = 8 ∧ x.2.2.2.2.2.length ≤ s.size ∧ R = (linesL x.1 x.2.2.2.2.2).map fun y => (x.2.2.2.2.1 ++ y.1, y.2)) (fun x => [(0, .string (strOf x.2.2.2.2.2)), (2, x.2.2.1)]) (fun x => x.1) ⟨(8, _, _, [], [], s.toList), ⟨hle, hM, hst, Grow.nil _ _, rfl, by dsimp only; omega, by rw [hR]; cases R <;> rfl⟩, ⟨by rw [strOfE]; rfl, rfl, trivial⟩⟩ ?_
  clear hle hM
  rintro ⟨f, I2, v2, Lv2, acc, cur⟩ w ⟨hle, hM, hstn, hg2, hf, hcl, hRR⟩
  dsimp only at hle hM hstn hg2 hf hcl hRR ⊢
  clear hst
  have hst := hstn
  clear hstn
  obtain ⟨a, b, fd, hcut, hfd, hal, hbl, _, _⟩ := cut_three cur
  refine CW.block ?_
  refine CW.seq ?_
  -- region 1
  refine CW.region ?_
  refine RW.op1 rfl (runs_move rfl) ?_
  refine RW.call rfl call21 rfl rfl (cutC_spec hst hM (strOf cur) (by rw [strOfZ]; omega)) ?_
  rintro e w ⟨rfl, hstn⟩
  clear hst
  have hst := hstn
  clear hstn
  rw [strOf_toList, hcut]
  dsimp only
  refine ⟨_, rfl, ?_⟩
  refine RW.op1 rfl (runs_move rfl) ?_
  refine RW.op1 rfl (runs_extract rfl rfl) ?_
  refine RW.op1 rfl (runs_extract rfl rfl) ?_
  refine RW.op1 rfl (runs_extract rfl rfl) ?_
  refine RW.op1 rfl (runs_assign rfl) ?_
  refine RW.op1 rfl (runs_assign rfl) ?_
  refine RW.op1 rfl (runs_assign rfl) ?_
  refine RW.done ?_
  refine AQ.next ?_
  refine CW.seq ?_
  refine CW.seq ?_
  -- region 2
  refine CW.region ?_
  refine RW.op1 rfl (runs_move rfl) ?_
  refine RW.op1 rfl (runs_not rfl) ?_
  refine RW.done ?_
  refine AQ.next ?_
  refine CW.cond rfl (fun hc17 => ?_) (fun hc17 => ?_)
  · have hcb17 := hc17
    try simp only [decide_eq_true_eq, decide_eq_false_iff_not] at hc17
    have hfd0 : fd = false := by simpa using hc17
    rw [hfd0] at hfd
    refine CW.seq ?_
    -- region 3
    refine CW.region ?_
    refine RW.op1 rfl (runs_assign rfl) ?_
    refine RW.op1 rfl (runs_assign rfl) ?_
    refine RW.op1 rfl (runs_assign rfl) ?_
    refine RW.done ?_
    refine AQ.next ?_
    refine CW.ret ?_
    refine AQ.past_ret ?_
    refine AQ.block_ret ?_
    refine AQ.past_ret ?_
    refine AQ.block_ret ?_
    refine AQ.retL (rs := [.tmp 2, .tmp 3, .tmp 4]) (vs := [_, _, _]) rfl ⟨rfl, rfl, rfl, trivial⟩ (by simp) ?_
    refine ⟨_, _, _, _, hle, rfl, hst.sub (List.sublist_append_right _ _), .inl ⟨?_, rfl⟩⟩
    rw [hRR, lines_none hfd]
    rfl
  · have hcb17 := hc17
    try simp only [decide_eq_true_eq, decide_eq_false_iff_not] at hc17
    have hfd1 : fd = true := by simpa using hc17
    rw [hfd1, if_pos rfl] at hfd
    have hbl2 := hbl hfd1
    refine CW.skip ?_
    refine AQ.next ?_
    refine CW.seq ?_
    refine CW.seq ?_
    -- region 4
    refine CW.region ?_
    refine RW.op1 rfl (runs_move rfl) ?_
    refine RW.op1 rfl (runs_eqS rfl rfl) ?_
    refine RW.done ?_
    refine AQ.next ?_
    refine CW.cond rfl (fun hc19 => ?_) (fun hc19 => ?_)
    · have hcb19 := hc19
      try simp only [decide_eq_true_eq, decide_eq_false_iff_not] at hc19
      have ha : a = [] := by rw [emptyL] at hc19; exact strOf_nil.1 hc19
      refine CW.seq ?_
      -- region 5
      refine CW.region ?_
      refine RW.op1 rfl (runs_move rfl) ?_
      refine RW.op1 rfl (runs_move rfl) ?_
      refine RW.op1 rfl (runs_assign rfl) ?_
      refine RW.op1 rfl (runs_assign rfl) ?_
      refine RW.op1 rfl (runs_assign rfl) ?_
      refine RW.done ?_
      refine AQ.next ?_
      refine CW.ret ?_
      refine AQ.past_ret ?_
      refine AQ.block_ret ?_
      refine AQ.past_ret ?_
      refine AQ.block_ret ?_
      refine AQ.retL (rs := [.tmp 2, .tmp 3, .tmp 4]) (vs := [_, _, _]) rfl ⟨rfl, rfl, rfl, trivial⟩ (by simp) ?_
      obtain ⟨I3, h1, h2, h3⟩ := hg2.freeze hst
      subst ha
      refine ⟨I3, _, _, _, hle.trans h1, rfl, h2, .inr ⟨acc, b, ?_, rfl, ?_, rfl, by omega⟩⟩
      · rw [hRR, lines_last hfd, Option.map_some, List.append_nil]
      · unfold RdH
        rw [List.length_map]
        exact h3
    · have hcb19 := hc19
      try simp only [decide_eq_true_eq, decide_eq_false_iff_not] at hc19
      have ha : a ≠ [] := fun h => by rw [emptyL, strOf_toList, h] at hc19; exact absurd hc19 (by decide)
      refine CW.skip ?_
      refine AQ.next ?_
      refine CW.seq ?_
      -- region 6
      refine CW.region ?_
      refine RW.op1 rfl (runs_move rfl) ?_
      refine RW.call rfl call39 rfl rfl (one_spec hst (strOf a) (by rw [strOfZ]; omega)) ?_
      rintro e w ⟨nn, nv, ok, rfl, hone, hnl, hvl, hstn⟩
      clear hst
      have hst := hstn
      clear hstn
      rw [strOf_toList] at hone
      refine ⟨_, rfl, ?_⟩
      refine RW.op1 rfl (runs_move rfl) ?_
      refine RW.op1 rfl (runs_extract rfl rfl) ?_
      refine RW.op1 rfl (runs_extract rfl rfl) ?_
      refine RW.opE rfl (runs_alloc ti27 hst) ?_
      rintro _ w ⟨b3, rfl, hstn⟩
      clear hst
      have hst := hstn
      clear hstn
      first
        | refine RW.opE0 (runs_storeW ti27 rfl rfl hst (k := 0) rfl rfl rfl (NoFz.zero _) rfl) ?_
        | refine RW.opE0 (runs_storeP ti27 rfl rfl hst (k := 0) rfl rfl rfl (NoFz.zero _) rfl) ?_
        | refine RW.opE0 (runs_storeW ti27 rfl rfl hst (k := 1) rfl rfl rfl (NoFz.zero _) rfl) ?_
        | refine RW.opE0 (runs_storeP ti27 rfl rfl hst (k := 1) rfl rfl rfl (NoFz.zero _) rfl) ?_
        | refine RW.opE0 (runs_storeW ti27 rfl rfl hst (k := 2) rfl rfl rfl (NoFz.zero _) rfl) ?_
        | refine RW.opE0 (runs_storeP ti27 rfl rfl hst (k := 2) rfl rfl rfl (NoFz.zero _) rfl) ?_
      rintro w hstn
      clear hst
      have hst := hstn
      clear hstn
      try simp only [List.set_cons_zero, List.set_cons_succ] at hst
      refine RW.op1 rfl (runs_assign rfl) ?_
      refine RW.done ?_
      refine AQ.next ?_
      refine CW.seq ?_
      refine CW.seq ?_
      -- region 7
      refine CW.region ?_
      refine RW.op1 rfl (runs_move rfl) ?_
      refine RW.op1 rfl (runs_not rfl) ?_
      refine RW.op1 rfl (runs_move rfl) ?_
      refine RW.split (t := 29) rfl (fun hb29 => ?_) (fun hb29 => ?_)
      · have hb29p := hb29
        try simp only [decide_eq_true_eq, decide_eq_false_iff_not] at hb29p
        refine RW.off_guard rfl rfl rfl rfl hb29 ?_
        refine RW.off_guard rfl rfl rfl rfl hb29 ?_
        refine RW.off_guard rfl rfl rfl rfl hb29 ?_
        refine RW.op1 rfl (runs_pick_true rfl hb29 rfl) ?_
        refine RW.done ?_
        refine AQ.next ?_
        skip
        refine CW.cond_true rfl ?_
        refine CW.seq ?_
        -- region 8
        refine CW.region ?_
        refine RW.op1 rfl (runs_assign rfl) ?_
        refine RW.op1 rfl (runs_assign rfl) ?_
        refine RW.op1 rfl (runs_assign rfl) ?_
        refine RW.done ?_
        refine AQ.next ?_
        refine CW.ret ?_
        refine AQ.past_ret ?_
        refine AQ.block_ret ?_
        refine AQ.past_ret ?_
        refine AQ.block_ret ?_
        refine AQ.retL (rs := [.tmp 2, .tmp 3, .tmp 4]) (vs := [_, _, _]) rfl ⟨rfl, rfl, rfl, trivial⟩ (by simp) ?_
        refine ⟨_, _, _, _, hle, rfl, hst.drop1.sub (List.sublist_append_right _ _), .inl ⟨?_, rfl⟩⟩
        rw [hRR, lines_bad hfd ha (.inl (by rw [hone, if_neg (by simpa using hb29)]))]
        rfl
      · have hb29p := hb29
        try simp only [decide_eq_true_eq, decide_eq_false_iff_not] at hb29p
        refine RW.on_guard rfl rfl rfl rfl hb29 ?_
        refine RW.op1 rfl (runs_move rfl) ?_
        refine RW.on_guard rfl rfl rfl rfl hb29 ?_
        refine RW.op1 rfl (Grow.len Tryd.underlying23 rfl hg2) ?_
        refine RW.on_guard rfl rfl rfl rfl hb29 ?_
        refine RW.op1 rfl (runs_eqI rfl rfl) ?_
        refine RW.op1 rfl (runs_pick_false rfl hb29 rfl) ?_
        refine RW.done ?_
        refine AQ.next ?_
        refine CW.cond rfl (fun hc33 => ?_) (fun hc33 => ?_)
        · have hcb33 := hc33
          try simp only [decide_eq_true_eq, decide_eq_false_iff_not] at hc33
          skip
          refine CW.seq ?_
          -- region 8
          refine CW.region ?_
          refine RW.op1 rfl (runs_assign rfl) ?_
          refine RW.op1 rfl (runs_assign rfl) ?_
          refine RW.op1 rfl (runs_assign rfl) ?_
          refine RW.done ?_
          refine AQ.next ?_
          refine CW.ret ?_
          refine AQ.past_ret ?_
          refine AQ.block_ret ?_
          refine AQ.past_ret ?_
          refine AQ.block_ret ?_
          refine AQ.retL (rs := [.tmp 2, .tmp 3, .tmp 4]) (vs := [_, _, _]) rfl ⟨rfl, rfl, rfl, trivial⟩ (by simp) ?_
          refine ⟨_, _, _, _, hle, rfl, hst.drop1.sub (List.sublist_append_right _ _), .inl ⟨?_, rfl⟩⟩
          rw [hRR, lines_bad hfd ha (.inr (by omega))]
          rfl
        · have hcb33 := hc33
          try simp only [decide_eq_true_eq, decide_eq_false_iff_not] at hc33
          have hok : ok = true := by simpa using hb29
          rw [if_pos hok] at hone
          obtain ⟨f, rfl⟩ : ∃ g, f = g + 1 := ⟨f - 1, by omega⟩
          refine CW.skip ?_
          refine AQ.next ?_
          -- region 9
          refine CW.region ?_
          refine RW.op1 rfl (runs_move rfl) ?_
          first
            | refine RW.op1 rfl (runs_loadN (vs := [_, _]) ag27 ti27 rfl hst (k := 0) rfl rfl rfl) ?_
            | refine RW.op1 rfl (runs_loadN (vs := [_, _]) ag27 ti27 rfl hst (k := 1) rfl rfl rfl) ?_
            | refine RW.op1 rfl (runs_loadN (vs := [_, _]) ag27 ti27 rfl hst (k := 2) rfl rfl rfl) ?_
          refine RW.opE rfl (runs_litF (xs := [.agg #[_, _]]) Tryd.underlying23 ti27 (by decide) rfl rfl rfl rfl rfl hst (by decide)) ?_
          rintro u5 w ⟨Lv5, hstn, hg5⟩
          clear hst
          have hst := hstn
          clear hstn
          obtain ⟨J5, hJ5, hstn, h5⟩ := Grow.freeze hg5 hst
          clear hst
          have hst := hstn
          clear hstn
          replace hM := hM.mono hJ5
          replace hle := hle.trans hJ5
          try simp only [List.nil_append] at h5
          replace h5 : RdL J5 2 u5 1 (hrow (hrowL (nn, nv))) := h5
          have hL := h5
          refine RW.opE rfl (runs_appendRA [_] Tryd.underlying23 ti27 rfl (by decide) rfl rfl hst hg2 hL (by omega) (by unfold maxLen; omega)) ?_
          rintro uN w ⟨LvN, hstn, hgN⟩
          clear hst
          have hst := hstn
          clear hstn
          have hg3 : Grow 27 2 uN (acc ++ [(nn, nv)]).length (((acc ++ [(nn, nv)]).map hrowL).flatMap hrow) LvN := by
            rw [List.length_append, List.map_append, List.flatMap_append]
            exact hgN
          refine RW.op1 rfl (runs_move rfl) ?_
          refine RW.op1 rfl (runs_assign rfl) ?_
          refine RW.op1 rfl (runs_assign rfl) ?_
          refine RW.done ?_
          refine AQ.block_normal ?_
          exact AQ.again (x := (f + 1, I2, v2, Lv2, acc, cur)) (f, _, uN, LvN, acc ++ [(nn, nv)], b) ⟨hle, hM, hst.drop1, hg3, by simp; omega, by dsimp only; omega, by
            rw [hRR, lines_next hfd ha hone]
            cases linesL f b <;> simp⟩ ⟨rfl, rfl, trivial⟩ (by dsimp only; omega)
set_option maxRecDepth 100000 in
set_option maxHeartbeats 1000000 in
theorem lengths_spec {w0 w : World} {I : Imm} {L : Own} (hst : St w0 w I L) {v : Value} {hs : List HL} (hv : RdH I v (hs.map hrowL)) (hlen : hs.length ≤ 1000000) (hsz : ∀ h ∈ hs, h.1.length ≤ 9223372036854775807) :
    Calls Tryd.prog 40 #[v] w fun e w' => ∃ I' v', Imm.le I I' ∧ e = .returned v' ∧ RdS I' v' ((toldL hs).map strOf) ∧ St w0 w' I' L := by
  refine enter Tryd.func40 rfl (N := 23) rfl rfl ?_
  simp only [List.zipIdx_cons, List.zipIdx_nil, List.map_cons, List.map_nil, Nat.zero_add, Nat.reduceAdd]
  have hle := Imm.le.refl I
  refine CW.seq ?_
  -- region 0
  refine CW.region ?_
  refine RW.op1 rfl (runs_assign rfl) ?_
  refine RW.done ?_
  refine AQ.next ?_
  refine CW.seq ?_
  -- region 1
  refine CW.region ?_
  refine RW.op1 rfl (runs_assign rfl) ?_
  refine RW.done ?_
  refine AQ.next ?_
  refine CW.seq ?_
  refine CW.seq ?_
  -- region 2
  refine CW.region ?_
  refine RW.op1 rfl (runs_move rfl) ?_
  refine RW.op1 rfl (RdL.len Tryd.underlying23 rfl hv) ?_
  rw [List.length_map]
  refine RW.op1 rfl (runs_move rfl) ?_
  refine RW.done ?_
  refine AQ.next ?_
  refine CW.block ?_
  -- loop 1
  refine CW.loop (Nat × Imm × Value × Own) (fun x w => I.le x.2.1 ∧ RdH x.2.1 v (hs.map hrowL) ∧ St w0 w x.2.1 (x.2.2.2 ++ L) ∧ Grow 9 1 x.2.2.1 (toldL (hs.take x.1)).length (((toldL (hs.take x.1)).map strOf).map Value.string) x.2.2.2 ∧ x.1 ≤ hs.length) (fun x => [(3, x.2.2.1), (6, v), (7, .int .i64 (hs.length : Nat)), (8, .int .i64 (x.1 : Int))]) (fun x => hs.length - x.1) ⟨(0, _, _, []), ⟨hle, hv, hst, Grow.nil _ _, Nat.zero_le _⟩, ⟨rfl, rfl, rfl, rfl, trivial⟩⟩ ?_
  clear hle hv
  rintro ⟨k, I2, v2, Lv2⟩ w ⟨hle, hv, hstn, hg2, hk⟩
  dsimp only at hle hv hstn hg2 hk ⊢
  clear hst
  have hst := hstn
  clear hstn
  refine CW.seq ?_
  -- region 3
  refine CW.region ?_
  refine RW.op1 rfl (runs_lss rfl rfl) ?_
  refine RW.done ?_
  refine AQ.next ?_
  refine CW.seq ?_
  refine CW.cond rfl (fun hc9 => ?_) (fun hc9 => ?_)
  · have hcb9 := hc9
    try simp only [decide_eq_true_eq, decide_eq_false_iff_not] at hc9
    have hk1 : k < hs.length := by omega
    obtain ⟨⟨n, d⟩, hr⟩ : ∃ r, hs[k] = r := ⟨_, rfl⟩
    have hr2 : hs[k]? = some (n, d) := by rw [List.getElem?_eq_getElem hk1, hr]
    have hr3 : (hs.map hrowL)[k]? = some (hrowL (n, d)) := by rw [List.getElem?_map, hr2]; rfl
    have hsn := hsz (n, d) (List.mem_of_getElem? hr2)
    have htk : toldL (hs.take (k + 1)) = toldL (hs.take k) ++ (if isCL n = true then [d] else []) := by
      rw [List.take_add_one, hr2]
      unfold toldL
      rw [List.filter_append, List.map_append]
      congr 1
      rw [Option.toList_some, List.filter_cons]
      split <;> rfl
    have h9 : (toldL (hs.take k)).length ≤ 1000000 := by
      unfold toldL
      rw [List.length_map]
      exact Nat.le_trans (List.length_filter_le ..) (by rw [List.length_take]; omega)
    refine CW.skip ?_
    refine AQ.next ?_
    refine CW.seq ?_
    refine CW.block ?_
    refine CW.seq ?_
    -- region 4
    refine CW.region ?_
    refine RW.op1 rfl (RdL.indexAddr Tryd.underlying23 ti27 (by decide) rfl rfl hv (by rw [List.length_map]; omega)) ?_
    refine RW.op1 rfl (RdL.loadRow (row := hrow (hrowL (n, d))) ag27 ti27 rfl hv hst rfl (hrow_at hr3)) ?_
    refine RW.opE rfl (runs_alloc ti27 hst) ?_
    rintro _ w ⟨b1, rfl, hstn⟩
    clear hst
    have hst := hstn
    clear hstn
    first
      | refine RW.opE0 (runs_storeW ti27 rfl rfl hst (k := 0) rfl rfl rfl (NoFz.zero _) rfl) ?_
      | refine RW.opE0 (runs_storeP ti27 rfl rfl hst (k := 0) rfl rfl rfl (NoFz.zero _) rfl) ?_
      | refine RW.opE0 (runs_storeW ti27 rfl rfl hst (k := 1) rfl rfl rfl (NoFz.zero _) rfl) ?_
      | refine RW.opE0 (runs_storeP ti27 rfl rfl hst (k := 1) rfl rfl rfl (NoFz.zero _) rfl) ?_
      | refine RW.opE0 (runs_storeW ti27 rfl rfl hst (k := 2) rfl rfl rfl (NoFz.zero _) rfl) ?_
      | refine RW.opE0 (runs_storeP ti27 rfl rfl hst (k := 2) rfl rfl rfl (NoFz.zero _) rfl) ?_
    rintro w hstn
    clear hst
    have hst := hstn
    clear hstn
    try simp only [List.set_cons_zero, List.set_cons_succ] at hst
    refine RW.done ?_
    refine AQ.next ?_
    refine CW.seq ?_
    -- region 5
    refine CW.region ?_
    first
      | refine RW.op1 rfl (runs_fieldAddr0 rfl Tryd.underlying27 rfl ti9 (by decide)) ?_
      | refine RW.op1 rfl (runs_fieldAddr rfl Tryd.underlying27 rfl ti9 (by decide)) ?_
    first
      | refine RW.op1 rfl (runs_load1 sc9 rfl (hst.cell_own (k := 0) rfl rfl)) ?_
      | refine RW.op1 rfl (runs_load1 sc9 rfl (hst.cell_own (k := 1) rfl rfl)) ?_
      | refine RW.op1 rfl (runs_load1 sc9 rfl (hst.cell_own (k := 2) rfl rfl)) ?_
    refine RW.call rfl call48 rfl rfl (lower_spec hst (strOf n) (by rw [strOfZ]; exact hsn)) ?_
    rintro e w ⟨I3, hI3, rfl, hstn⟩
    clear hst
    have hst := hstn
    clear hstn
    rw [strOf_toList]
    replace hv := hv.mono hI3
    replace hle := hle.trans hI3
    refine ⟨_, rfl, ?_⟩
    refine RW.op1 rfl (runs_eqS rfl rfl) ?_
    rw [show ((strOf (lower n)).toList == (ByteArray.mk #[99, 111, 110, 116, 101, 110, 116, 45, 108, 101, 110, 103, 116, 104]).toList) = isCL n by rw [strOf_toList, ByteArray.toList_eq]; rfl]
    refine RW.done ?_
    refine AQ.next ?_
    refine CW.cond rfl (fun hc15 => ?_) (fun hc15 => ?_)
    · have hcb15 := hc15
      try simp only [decide_eq_true_eq, decide_eq_false_iff_not] at hc15
      -- region 6
      refine CW.region ?_
      refine RW.op1 rfl (runs_move rfl) ?_
      first
        | refine RW.op1 rfl (runs_fieldAddr0 rfl Tryd.underlying27 rfl ti9 (by decide)) ?_
        | refine RW.op1 rfl (runs_fieldAddr rfl Tryd.underlying27 rfl ti9 (by decide)) ?_
      first
        | refine RW.op1 rfl (runs_load1 sc9 rfl (hst.cell_own (k := 0) rfl rfl)) ?_
        | refine RW.op1 rfl (runs_load1 sc9 rfl (hst.cell_own (k := 1) rfl rfl)) ?_
        | refine RW.op1 rfl (runs_load1 sc9 rfl (hst.cell_own (k := 2) rfl rfl)) ?_
      refine RW.opE rfl (runs_lit1R (xs := [Value.string (strOf d)]) Tryd.underlying24 ti9 (by decide) rfl rfl rfl (by simp [Value.oneCell']) hst) ?_
      rintro u4 w ⟨I4, hI4, hstn, h4⟩
      clear hst
      have hst := hstn
      clear hstn
      replace hv : RdH _ v _ := RdL.mono hI4 hv
      replace hle := hle.trans hI4
      have hD : RdL _ 1 u4 1 [Value.string (strOf d)] := h4
      refine RW.opE rfl (runs_appendRA [_] Tryd.underlying24 ti9 rfl (by decide) rfl rfl hst hg2 hD (by omega) (by unfold maxLen; omega)) ?_
      rintro uN w ⟨LvN, hstn, hgN⟩
      clear hst
      have hst := hstn
      clear hstn
      refine RW.op1 rfl (runs_assign rfl) ?_
      refine RW.done ?_
      refine AQ.block_normal ?_
      refine AQ.next ?_
      -- region 7
      refine CW.region ?_
      refine RW.op1 rfl (runs_add rfl rfl (by omega)) ?_
      refine RW.op1 rfl (runs_move rfl) ?_
      refine RW.done ?_
      exact AQ.again (x := (k, I2, v2, Lv2)) (k + 1, _, uN, LvN) ⟨hle, hv, hst.drop1, by
        dsimp only
        rw [htk, if_pos hc15, List.map_append, List.map_append, List.length_append]
        exact hgN, by dsimp only; omega⟩ ⟨rfl, rfl, rfl, rfl, trivial⟩ (by dsimp only; omega)
    · have hcb15 := hc15
      try simp only [decide_eq_true_eq, decide_eq_false_iff_not] at hc15
      refine CW.skip ?_
      refine AQ.block_normal ?_
      refine AQ.next ?_
      -- region 7
      refine CW.region ?_
      refine RW.op1 rfl (runs_add rfl rfl (by omega)) ?_
      refine RW.op1 rfl (runs_move rfl) ?_
      refine RW.done ?_
      exact AQ.again (x := (k, I2, v2, Lv2)) (k + 1, _, v2, Lv2) ⟨hle, hv, hst.drop1, by
        dsimp only
        rw [htk, if_neg (by simpa using hc15), List.append_nil]
        exact hg2, by dsimp only; omega⟩ ⟨rfl, rfl, rfl, rfl, trivial⟩ (by dsimp only; omega)
  · have hcb9 := hc9
    try simp only [decide_eq_true_eq, decide_eq_false_iff_not] at hc9
    skip
    refine CW.exit ?_
    refine AQ.past_exit ?_
    refine AQ.past_exit ?_
    refine AQ.block_hit ?_
    refine AQ.next ?_
    refine CW.seq ?_
    -- region 8
    refine CW.region ?_
    refine RW.op1 rfl (runs_move rfl) ?_
    refine RW.op1 rfl (runs_assign rfl) ?_
    refine RW.done ?_
    refine AQ.next ?_
    refine CW.ret ?_
    refine AQ.ret1 rfl rfl ?_
    obtain ⟨I3, h1, h2, h3⟩ := hg2.freeze hst
    rw [List.take_of_length_le (by omega)] at h3
    refine ⟨I3, _, hle.trans h1, rfl, ?_, h2⟩
    unfold RdS
    rw [List.length_map]
    exact h3
end Go.Proofs.YtfjghkmapccjhaaDoorX
