/- The document's answers parsed: the same as the program's. -/
import Derived.Test.YtfjghkmapccjhaaDoorT
import Derived.Test.YtfjghkmapccjhaaDoorK12
namespace Go.Proofs.YtfjghkmapccjhaaDoorX
set_option linter.unusedVariables false
set_option linter.unusedSimpArgs false
open Go Go.RowKit Go.Proofs

theorem until_cut (l : List UInt8) : ∃ n v b, cutL l 58 = (n, v, b) ∧ untilL [58] l = (n, if b = true then 58 :: v else []) ∧ n.length ≤ l.length ∧ v.length ≤ l.length := by
  by_cases h : (58 : UInt8) ∈ l
  · obtain ⟨a, q, rfl, ha⟩ := List.eq_append_cons_of_mem h
    exact ⟨a, q, true, cutL_at ha, until1_at ha, by simp, by simp only [List.length_append, List.length_cons]; omega⟩
  · exact ⟨l, [], false, cutL_no h, until1_no h, Nat.le_refl _, Nat.zero_le _⟩
theorem one_of {l n v : List UInt8} {b : Bool} (h : cutL l 58 = (n, v, b)) : oneL l = if b = true ∧ nmOk n = true ∧ vlOk (Lib.trimB v 32) = true then some (n, Lib.trimB v 32) else none := by
  unfold oneL
  rw [h]
theorem linesD_none {f : Nat} {s : List UInt8} {had : Option Int} (h : lineL s = none) : linesD f s had = none := by unfold linesD; rw [h]
theorem linesD_last {f : Nat} {s b : List UInt8} {had : Option Int} (h : lineL s = some ([], b)) : linesD f s had = some ([], b, had) := by unfold linesD; rw [h]; rfl
theorem linesD_bad {f : Nat} {s a b : List UInt8} {had : Option Int} (h : lineL s = some (a, b)) (ha : a ≠ []) (ho : oneL a = none ∨ f = 0) : linesD f s had = none := by
  unfold linesD
  rw [h]
  dsimp only
  rw [if_neg ha]
  rcases ho with ho | rfl
  · rw [ho]
  · cases oneL a <;> rfl
theorem linesD_next {f : Nat} {s a b : List UInt8} {had : Option Int} {x : HL} (h : lineL s = some (a, b)) (ha : a ≠ []) (ho : oneL a = some x) : linesD (f + 1) s had = if isCL x.1 = true then (if (numberR x.2).isSome = true ∧ had = none then (linesD f b (numberR x.2)).map fun y => (x :: y.1, y.2) else none) else (linesD f b had).map fun y => (x :: y.1, y.2) := by
  conv => lhs; unfold linesD
  rw [h]
  dsimp only
  rw [if_neg ha, ho]
theorem parseD_no1 {s a b : List UInt8} {fd : Bool} (h : lineL s = if fd = true then some (a, b) else none) (h2 : codeL a = 0 ∨ fd = false) : outR s = ⟨0, [], [], false⟩ ∧ (parseL s).isSome = false := by
  have := parse_none1 h h2
  exact ⟨(out_none this).1, by rw [this]; rfl⟩
theorem parseD_no2 {s : List UInt8} (h : parseD s = none) : outR s = ⟨0, [], [], false⟩ ∧ (parseL s).isSome = false := by
  rw [parse_law] at h
  exact ⟨(out_none h).1, by rw [h]; rfl⟩
theorem parseD_yes {s : List UInt8} {r : RepL} (h : parseD s = some r) : outR s = r ∧ (parseL s).isSome = true := by
  rw [parse_law] at h
  exact ⟨(out_some h).1, by rw [h]; rfl⟩
theorem parseD_one {s a b : List UInt8} (h : lineL s = some (a, b)) (h2 : codeL a ≠ 0) : parseD s = match linesD 8 b none with
    | none => none
    | some (hs, b, none) => some ⟨codeL a, hs, b, false⟩
    | some (hs, b, some n) => some ⟨codeL a, hs, b.take n.toNat, decide ((b.length : Int) < n)⟩ := by
  unfold parseD
  rw [h]
  dsimp only
  rw [if_neg h2]
  rfl
theorem take_min (m : Int) (h : 0 ≤ m) (l : List UInt8) : l.take (min m.toNat l.length) = l.take m.toNat := by
  by_cases h4 : m.toNat ≤ l.length
  · rw [Nat.min_eq_left h4]
  · rw [Nat.min_eq_right (by omega), List.take_of_length_le (by omega), List.take_of_length_le (by omega)]
theorem trim_len (v : List UInt8) : (Lib.trimB v 32).length ≤ v.length := by
  rw [← trim_swap]
  unfold Lib.trimRightB Lib.trimLeftB
  rw [List.length_reverse]
  have h1 := (List.dropWhile_sublist (fun x => x == (32 : UInt8)) (l := (v.dropWhile (fun x => x == (32 : UInt8))).reverse)).length_le
  have h2 := (List.dropWhile_sublist (fun x => x == (32 : UInt8)) (l := v)).length_le
  rw [List.length_reverse] at h1
  omega
theorem all4b {v : Value} (c : Int) (b : ByteArray) (x : Bool) (h : v.oneCell' = true) : [Value.int .i64 c, v, Value.string b, Value.bool x].all Value.oneCell' = true := by
  simp only [List.all_cons, h, List.all_nil]
  rfl
theorem line_parts {s a b : List UInt8} (h : lineL s = some (a, b)) : a.length + b.length + 2 = s.length := by
  have := congrArg List.length (lineL_len h).1
  simp only [List.length_append, List.length_cons] at this
  omega
set_option maxRecDepth 100000 in
set_option maxHeartbeats 4000000 in
theorem parseRef_spec {w0 w : World} {I : Imm} {L : Own} (hst : St w0 w I L) (s : ByteArray) (hs : s.size ≤ 1099511627776) :
    Calls Tryd.prog 16 #[.string s] w fun e w' => ∃ I' A cap, Imm.le I I' ∧ e = .returned (.tuple #[.agg #[.int .i64 (outR s.toList).code, .slice A (outR s.toList).heads.length cap, .string (strOf (outR s.toList).body), .bool (outR s.toList).cut], .bool (parseL s.toList).isSome]) ∧ St w0 w' I' L ∧ RdH I' (.slice A (outR s.toList).heads.length cap) ((outR s.toList).heads.map hrowL) := by
  have hz := size_toList s
  have hz9 : httpS.size = 9 := rfl
  have hz58 : (ByteArray.mk #[58]).toList = [58] := by rw [ByteArray.toList_eq]
  refine enter Tryd.func16 rfl (N := 132) rfl rfl ?_
  simp only [List.zipIdx_cons, List.zipIdx_nil, List.map_cons, List.map_nil, Nat.zero_add, Nat.reduceAdd]
  have hle := Imm.le.refl I
  refine CW.seq ?_
  -- region 0
  refine CW.region ?_
  refine RW.opE rfl (runs_alloc ti44 hst) ?_
  rintro _ w ⟨b1, rfl, hstn⟩
  clear hst
  have hst := hstn
  clear hstn
  refine RW.op1 rfl (runs_assign rfl) ?_
  refine RW.done ?_
  refine AQ.next ?_
  refine CW.seq ?_
  -- region 1
  refine CW.region ?_
  refine RW.op1 rfl (runs_move rfl) ?_
  refine RW.call rfl call27 rfl rfl (line_spec hst s hs) ?_
  rintro e w ⟨a, b, fd, rfl, hfd, hstn⟩
  clear hst
  have hst := hstn
  clear hstn
  have hfl : fd = true → a.length + b.length + 2 = s.toList.length := fun h => line_parts (by rw [hfd, if_pos h])
  refine ⟨_, rfl, ?_⟩
  refine RW.op1 rfl (runs_move rfl) ?_
  refine RW.op1 rfl (runs_extract rfl rfl) ?_
  refine RW.op1 rfl (runs_extract rfl rfl) ?_
  refine RW.op1 rfl (runs_extract rfl rfl) ?_
  refine RW.op1 rfl (runs_assign rfl) ?_
  refine RW.op1 rfl (runs_assign rfl) ?_
  refine RW.op1 rfl (runs_assign rfl) ?_
  refine RW.done ?_
  refine AQ.next ?_
  refine CW.seq ?_
  refine CW.seq ?_
  -- region 2
  refine CW.cut Unit (fun _ w => St w0 w I ((b1, Obj.cells (Value.agg #[.int .i64 (0), .slice none 0 0, .string ⟨#[]⟩, .bool false]).cells 44) :: L)) (fun _ => [(0, .string (strOf b)), (2, .pointer (some ⟨b1, 0, none⟩)), (4, .string (strOf a)), (34, .bool (decide (¬ (fd = true ∧ 12 ≤ a.length ∧ (a.take 9 == httpL) = true))))]) ?_ ?_
  · -- region 2
    refine CW.region ?_
    refine RW.op1 rfl (runs_move rfl) ?_
    refine RW.op1 rfl (runs_not rfl) ?_
    refine RW.op1 rfl (runs_move rfl) ?_
    refine RW.split (t := 25) rfl (fun hb25 => ?_) (fun hb25 => ?_)
    · have hb25p := hb25
      try simp only [decide_eq_true_eq, decide_eq_false_iff_not] at hb25p
      refine RW.off_guard rfl rfl rfl rfl hb25 ?_
      refine RW.off_guard rfl rfl rfl rfl hb25 ?_
      refine RW.off_guard rfl rfl rfl rfl hb25 ?_
      refine RW.op1 rfl (runs_pick_true rfl hb25 rfl) ?_
      refine RW.op1 rfl (runs_move rfl) ?_
      refine RW.off_guard rfl rfl rfl rfl rfl ?_
      refine RW.off_guard rfl rfl rfl rfl rfl ?_
      refine RW.off_guard rfl rfl rfl rfl rfl ?_
      refine RW.op1 rfl (runs_pick_true rfl rfl rfl) ?_
      refine RW.done ?_
      exact AQ.meet () hst ⟨rfl, rfl, rfl, boolN (by (try rw [strOfZ]); (try rw [strOfZ] at hb30); clear hz hz9 hst hfd hfl; cases fd <;> cases hhh : (List.take 9 a == httpL) <;> simp_all <;> omega), trivial⟩
    · have hb25p := hb25
      try simp only [decide_eq_true_eq, decide_eq_false_iff_not] at hb25p
      refine RW.on_guard rfl rfl rfl rfl hb25 ?_
      refine RW.op1 rfl (runs_move rfl) ?_
      refine RW.on_guard rfl rfl rfl rfl hb25 ?_
      refine RW.call rfl call28 rfl rfl (begins_spec hst (strOf a) httpS) ?_
      rintro e w ⟨rfl, hstn⟩
      clear hst
      have hst := hstn
      clear hstn
      rw [http_pre, strOf_toList]
      refine ⟨_, rfl, ?_⟩
      refine RW.on_guard rfl rfl rfl rfl hb25 ?_
      refine RW.op1 rfl (runs_not rfl) ?_
      refine RW.op1 rfl (runs_pick_false rfl hb25 rfl) ?_
      refine RW.op1 rfl (runs_move rfl) ?_
      refine RW.split (t := 30) rfl (fun hb30 => ?_) (fun hb30 => ?_)
      · have hb30p := hb30
        try simp only [decide_eq_true_eq, decide_eq_false_iff_not] at hb30p
        refine RW.off_guard rfl rfl rfl rfl hb30 ?_
        refine RW.off_guard rfl rfl rfl rfl hb30 ?_
        refine RW.off_guard rfl rfl rfl rfl hb30 ?_
        refine RW.op1 rfl (runs_pick_true rfl hb30 rfl) ?_
        refine RW.done ?_
        exact AQ.meet () hst ⟨rfl, rfl, rfl, boolN (by (try rw [strOfZ]); (try rw [strOfZ] at hb30); clear hz hz9 hst hfd hfl; cases fd <;> cases hhh : (List.take 9 a == httpL) <;> simp_all <;> omega), trivial⟩
      · have hb30p := hb30
        try simp only [decide_eq_true_eq, decide_eq_false_iff_not] at hb30p
        refine RW.on_guard rfl rfl rfl rfl hb30 ?_
        refine RW.op1 rfl (runs_move rfl) ?_
        refine RW.on_guard rfl rfl rfl rfl hb30 ?_
        refine RW.op1 rfl (runs_lenS Tryd.underlying9 rfl) ?_
        refine RW.on_guard rfl rfl rfl rfl hb30 ?_
        refine RW.op1 rfl (runs_lss rfl rfl) ?_
        refine RW.op1 rfl (runs_pick_false rfl hb30 rfl) ?_
        refine RW.done ?_
        exact AQ.meet () hst ⟨rfl, rfl, rfl, boolN (by (try rw [strOfZ]); (try rw [strOfZ] at hb30); clear hz hz9 hst hfd hfl; cases fd <;> cases hhh : (List.take 9 a == httpL) <;> simp_all <;> omega), trivial⟩
  · rintro _ w hstn
    clear hst
    have hst := hstn
    clear hstn
    refine AQ.next ?_
    refine CW.cond rfl (fun hc34 => ?_) (fun hc34 => ?_)
    · have hcb34 := hc34
      try simp only [decide_eq_true_eq, decide_eq_false_iff_not] at hc34
      have h34 : ¬ (fd = true ∧ 12 ≤ a.length ∧ (a.take 9 == httpL) = true) := of_decide_eq_true hcb34
      refine CW.seq ?_
      -- region 3
      refine CW.region ?_
      refine RW.op1 rfl (runs_buildF (cells := [_, _, _, _]) bz44 rfl rfl rfl rfl rfl) ?_
      first
        | refine RW.opE0 (runs_storeW ti44 rfl rfl hst (k := 0) rfl rfl rfl (NoFz.zero _) rfl) ?_
        | refine RW.opE0 (runs_storeP ti44 rfl rfl hst (k := 0) rfl rfl rfl (NoFz.zero _) rfl) ?_
        | refine RW.opE0 (runs_storeW ti44 rfl rfl hst (k := 1) rfl rfl rfl (NoFz.zero _) rfl) ?_
        | refine RW.opE0 (runs_storeP ti44 rfl rfl hst (k := 1) rfl rfl rfl (NoFz.zero _) rfl) ?_
        | refine RW.opE0 (runs_storeW ti44 rfl rfl hst (k := 2) rfl rfl rfl (NoFz.zero _) rfl) ?_
        | refine RW.opE0 (runs_storeP ti44 rfl rfl hst (k := 2) rfl rfl rfl (NoFz.zero _) rfl) ?_
      rintro w hstn
      clear hst
      have hst := hstn
      clear hstn
      try simp only [List.set_cons_zero, List.set_cons_succ] at hst
      refine RW.op1 rfl (runs_assign rfl) ?_
      refine RW.done ?_
      refine AQ.next ?_
      refine CW.ret ?_
      refine AQ.past_ret ?_
      refine AQ.retL (rs := [.cell 2 44, .tmp 3]) (vs := [_, _]) rfl ⟨⟨_, rfl, hst.loadN (vs := [_, _, _, _]) (k := 0) ag44 ti44 rfl rfl rfl⟩, rfl, trivial⟩ (by simp) ?_
      obtain ⟨ho1, ho2⟩ := parseD_no1 hfd (by
        by_cases hf : fd = true
        · exact .inl (code_no fun h => h34 ⟨hf, h⟩)
        · exact .inr (by simpa using hf))
      rw [ho1, ho2]
      exact ⟨_, none, 0, hle, rfl, hst.drop1, RdL.nil 2⟩
    · have hcb34 := hc34
      try simp only [decide_eq_true_eq, decide_eq_false_iff_not] at hc34
      have h34 : fd = true ∧ 12 ≤ a.length ∧ (a.take 9 == httpL) = true := by simpa using hcb34
      rw [h34.1, if_pos rfl] at hfd
      replace hfl := hfl h34.1
      have hco := code_of h34.2.1 h34.2.2
      refine CW.skip ?_
      refine AQ.next ?_
      refine CW.seq ?_
      -- region 4
      refine CW.region ?_
      refine RW.op1 rfl (runs_move rfl) ?_
      refine RW.op1 rfl (runs_sliceS_lh Tryd.underlying9 rfl rfl rfl (by rw [strOfZ]; omega)) ?_
      rw [show (strOf a).extract ((9 : Int)).toNat ((12 : Int)).toNat = strOf ((a.drop 9).take 3) from by rw [extractE, strOf_toList]; rfl]
      refine RW.call rfl call19 rfl rfl (figures3_spec hst (strOf ((a.drop 9).take 3)) (by rw [strOfZ, List.length_take, List.length_drop]; omega)) ?_
      rintro e w ⟨rfl, hstn⟩
      clear hst
      have hst := hstn
      clear hstn
      rw [strOf_toList]
      generalize numberR ((a.drop 9).take 3) = q at hco ⊢
      refine ⟨_, rfl, ?_⟩
      refine RW.op1 rfl (runs_move rfl) ?_
      refine RW.op1 rfl (runs_extract rfl rfl) ?_
      refine RW.op1 rfl (runs_extract rfl rfl) ?_
      refine RW.op1 rfl (runs_assign rfl) ?_
      refine RW.op1 rfl (runs_assign rfl) ?_
      refine RW.done ?_
      refine AQ.next ?_
      refine CW.seq ?_
      refine CW.seq ?_
      -- region 5
      refine CW.cut Unit (fun _ w => St w0 w I ((b1, Obj.cells (Value.agg #[.int .i64 (0), .slice none 0 0, .string ⟨#[]⟩, .bool false]).cells 44) :: L)) (fun _ => [(0, .string (strOf b)), (2, .pointer (some ⟨b1, 0, none⟩)), (6, .int .i64 (q.getD 0)), (51, .bool (decide (¬ (q.isSome = true ∧ 100 ≤ q.getD 0 ∧ q.getD 0 ≤ 599))))]) ?_ ?_
      · -- region 5
        refine CW.region ?_
        refine RW.op1 rfl (runs_move rfl) ?_
        refine RW.op1 rfl (runs_not rfl) ?_
        refine RW.op1 rfl (runs_move rfl) ?_
        refine RW.split (t := 44) rfl (fun hb44 => ?_) (fun hb44 => ?_)
        · have hb44p := hb44
          try simp only [decide_eq_true_eq, decide_eq_false_iff_not] at hb44p
          refine RW.off_guard rfl rfl rfl rfl hb44 ?_
          refine RW.off_guard rfl rfl rfl rfl hb44 ?_
          refine RW.op1 rfl (runs_pick_true rfl hb44 rfl) ?_
          refine RW.op1 rfl (runs_move rfl) ?_
          refine RW.off_guard rfl rfl rfl rfl rfl ?_
          refine RW.off_guard rfl rfl rfl rfl rfl ?_
          refine RW.op1 rfl (runs_pick_true rfl rfl rfl) ?_
          refine RW.done ?_
          exact AQ.meet () hst ⟨rfl, rfl, rfl, boolN (by simp_all <;> omega), trivial⟩
        · have hb44p := hb44
          try simp only [decide_eq_true_eq, decide_eq_false_iff_not] at hb44p
          refine RW.on_guard rfl rfl rfl rfl hb44 ?_
          refine RW.op1 rfl (runs_move rfl) ?_
          refine RW.on_guard rfl rfl rfl rfl hb44 ?_
          refine RW.op1 rfl (runs_lss rfl rfl) ?_
          refine RW.op1 rfl (runs_pick_false rfl hb44 rfl) ?_
          refine RW.op1 rfl (runs_move rfl) ?_
          refine RW.split (t := 48) rfl (fun hb48 => ?_) (fun hb48 => ?_)
          · have hb48p := hb48
            try simp only [decide_eq_true_eq, decide_eq_false_iff_not] at hb48p
            refine RW.off_guard rfl rfl rfl rfl hb48 ?_
            refine RW.off_guard rfl rfl rfl rfl hb48 ?_
            refine RW.op1 rfl (runs_pick_true rfl hb48 rfl) ?_
            refine RW.done ?_
            exact AQ.meet () hst ⟨rfl, rfl, rfl, boolN (by simp_all <;> omega), trivial⟩
          · have hb48p := hb48
            try simp only [decide_eq_true_eq, decide_eq_false_iff_not] at hb48p
            refine RW.on_guard rfl rfl rfl rfl hb48 ?_
            refine RW.op1 rfl (runs_move rfl) ?_
            refine RW.on_guard rfl rfl rfl rfl hb48 ?_
            refine RW.op1 rfl (runs_gtr rfl rfl) ?_
            refine RW.op1 rfl (runs_pick_false rfl hb48 rfl) ?_
            refine RW.done ?_
            exact AQ.meet () hst ⟨rfl, rfl, rfl, boolN (by simp_all <;> omega), trivial⟩
      · rintro _ w hstn
        clear hst
        have hst := hstn
        clear hstn
        refine AQ.next ?_
        refine CW.cond rfl (fun hc51 => ?_) (fun hc51 => ?_)
        · have hcb51 := hc51
          try simp only [decide_eq_true_eq, decide_eq_false_iff_not] at hc51
          have h51 : ¬ (q.isSome = true ∧ 100 ≤ q.getD 0 ∧ q.getD 0 ≤ 599) := of_decide_eq_true hcb51
          have hc0 : codeL a = 0 := by
            rw [hco]
            cases q with
            | none => rfl
            | some n => exact if_pos (by simp at h51; omega)
          refine CW.seq ?_
          -- region 6
          refine CW.region ?_
          refine RW.op1 rfl (runs_buildF (cells := [_, _, _, _]) bz44 rfl rfl rfl rfl rfl) ?_
          first
            | refine RW.opE0 (runs_storeW ti44 rfl rfl hst (k := 0) rfl rfl rfl (NoFz.zero _) rfl) ?_
            | refine RW.opE0 (runs_storeP ti44 rfl rfl hst (k := 0) rfl rfl rfl (NoFz.zero _) rfl) ?_
            | refine RW.opE0 (runs_storeW ti44 rfl rfl hst (k := 1) rfl rfl rfl (NoFz.zero _) rfl) ?_
            | refine RW.opE0 (runs_storeP ti44 rfl rfl hst (k := 1) rfl rfl rfl (NoFz.zero _) rfl) ?_
            | refine RW.opE0 (runs_storeW ti44 rfl rfl hst (k := 2) rfl rfl rfl (NoFz.zero _) rfl) ?_
            | refine RW.opE0 (runs_storeP ti44 rfl rfl hst (k := 2) rfl rfl rfl (NoFz.zero _) rfl) ?_
          rintro w hstn
          clear hst
          have hst := hstn
          clear hstn
          try simp only [List.set_cons_zero, List.set_cons_succ] at hst
          refine RW.op1 rfl (runs_assign rfl) ?_
          refine RW.done ?_
          refine AQ.next ?_
          refine CW.ret ?_
          refine AQ.past_ret ?_
          refine AQ.retL (rs := [.cell 2 44, .tmp 3]) (vs := [_, _]) rfl ⟨⟨_, rfl, hst.loadN (vs := [_, _, _, _]) (k := 0) ag44 ti44 rfl rfl rfl⟩, rfl, trivial⟩ (by simp) ?_
          obtain ⟨ho1, ho2⟩ := parseD_no1 (fd := true) (by rw [if_pos rfl]; exact hfd) (.inl hc0)
          rw [ho1, ho2]
          exact ⟨_, none, 0, hle, rfl, hst.drop1, RdL.nil 2⟩
        · have hcb51 := hc51
          try simp only [decide_eq_true_eq, decide_eq_false_iff_not] at hc51
          have h51 : q.isSome = true ∧ 100 ≤ q.getD 0 ∧ q.getD 0 ≤ 599 := by simpa using hcb51
          have hc0 : codeL a = q.getD 0 := by
            rw [hco]
            cases q with
            | none => cases h51.1
            | some n => exact if_neg (by have := h51.2; simp at this; omega)
          have hps := parseD_one hfd (by rw [hc0]; omega)
          rw [hc0] at hps
          generalize q.getD 0 = code at hps h51
          clear hco hc0
          obtain ⟨R, hR⟩ : ∃ R, linesD 8 b none = R := ⟨_, rfl⟩
          rw [hR] at hps
          refine CW.skip ?_
          refine AQ.next ?_
          refine CW.seq ?_
          -- region 7
          refine CW.region ?_
          refine RW.op1 rfl (runs_move rfl) ?_
          refine RW.op1 rfl (runs_buildF (cells := [_, _, _, _]) bz44 rfl rfl rfl rfl rfl) ?_
          refine RW.opE rfl (runs_alloc ti44 hst) ?_
          rintro _ w ⟨b7, rfl, hstn⟩
          clear hst
          have hst := hstn
          clear hstn
          replace hst := hst.perm (List.Perm.swap _ _ _)
          first
            | refine RW.opE0 (runs_storeW ti44 rfl rfl hst (k := 0) rfl rfl rfl (NoFz.zero _) rfl) ?_
            | refine RW.opE0 (runs_storeP ti44 rfl rfl hst (k := 0) rfl rfl rfl (NoFz.zero _) rfl) ?_
            | refine RW.opE0 (runs_storeW ti44 rfl rfl hst (k := 1) rfl rfl rfl (NoFz.zero _) rfl) ?_
            | refine RW.opE0 (runs_storeP ti44 rfl rfl hst (k := 1) rfl rfl rfl (NoFz.zero _) rfl) ?_
            | refine RW.opE0 (runs_storeW ti44 rfl rfl hst (k := 2) rfl rfl rfl (NoFz.zero _) rfl) ?_
            | refine RW.opE0 (runs_storeP ti44 rfl rfl hst (k := 2) rfl rfl rfl (NoFz.zero _) rfl) ?_
          rintro w hstn
          clear hst
          have hst := hstn
          clear hstn
          try simp only [List.set_cons_zero, List.set_cons_succ] at hst
          refine RW.done ?_
          refine AQ.next ?_
          refine CW.seq ?_
          -- region 8
          refine CW.region ?_
          refine RW.op1 rfl (runs_assign rfl) ?_
          refine RW.op1 rfl (runs_assign rfl) ?_
          refine RW.done ?_
          refine AQ.next ?_
          refine CW.seq ?_
          refine CW.block ?_
          -- loop 1
          refine CW.loop (Nat × Imm × Value × Own × List HL × List UInt8 × Option Int) (fun x w => I.le x.2.1 ∧ St w0 w x.2.1 ((b1, Obj.cells (Value.agg #[.int .i64 (0), .slice none 0 0, .string ⟨#[]⟩, .bool false]).cells 44) :: (b7, Obj.cells (Value.agg #[.int .i64 (code), x.2.2.1, .string ⟨#[]⟩, .bool false]).cells 44) :: (x.2.2.2.1 ++ L)) ∧ Grow 27 2 x.2.2.1 x.2.2.2.2.1.length ((x.2.2.2.2.1.map hrowL).flatMap hrow) x.2.2.2.1 ∧ x.2.2.2.2.1.length + x.1 = 8 ∧ x.2.2.2.2.2.1.length ≤ s.size ∧ (∀ n, x.2.2.2.2.2.2 = some n → 0 ≤ n ∧ n ≤ 1000000) ∧ R = (linesD x.1 x.2.2.2.2.2.1 x.2.2.2.2.2.2).map fun y => (x.2.2.2.2.1 ++ y.1, y.2)) (fun x => [(0, .string (strOf x.2.2.2.2.2.1)), (2, .pointer (some ⟨b1, 0, none⟩)), (7, .pointer (some ⟨b7, 0, none⟩)), (8, .int .i64 (x.2.2.2.2.2.2.getD 0)), (9, .bool x.2.2.2.2.2.2.isSome)]) (fun x => x.1) ⟨(8, _, _, [], [], b, none), ⟨hle, hst, Grow.nil _ _, rfl, by dsimp only; omega, (fun n hn => by cases hn), by rw [hR]; cases R <;> rfl⟩, ⟨rfl, rfl, rfl, rfl, rfl, trivial⟩⟩ ?_
          clear hle
          rintro ⟨f, I2, v2, Lv2, acc, cur, had⟩ w ⟨hle, hstn, hg2, hf, hcl, hhd, hRR⟩
          dsimp only at hle hstn hg2 hf hcl hhd hRR ⊢
          clear hst
          have hst := hstn
          clear hstn
          refine CW.block ?_
          refine CW.seq ?_
          -- region 9
          refine CW.region ?_
          refine RW.op1 rfl (runs_move rfl) ?_
          refine RW.call rfl call27 rfl rfl (line_spec hst (strOf cur) (by rw [strOfZ]; omega)) ?_
          rintro e w ⟨l, rest, ok, rfl, hln, hstn⟩
          clear hst
          have hst := hstn
          clear hstn
          rw [strOf_toList] at hln
          refine ⟨_, rfl, ?_⟩
          refine RW.op1 rfl (runs_move rfl) ?_
          refine RW.op1 rfl (runs_extract rfl rfl) ?_
          refine RW.op1 rfl (runs_extract rfl rfl) ?_
          refine RW.op1 rfl (runs_extract rfl rfl) ?_
          refine RW.op1 rfl (runs_assign rfl) ?_
          refine RW.op1 rfl (runs_assign rfl) ?_
          refine RW.op1 rfl (runs_assign rfl) ?_
          refine RW.done ?_
          refine AQ.next ?_
          refine CW.seq ?_
          refine CW.seq ?_
          -- region 10
          refine CW.region ?_
          refine RW.op1 rfl (runs_move rfl) ?_
          refine RW.op1 rfl (runs_not rfl) ?_
          refine RW.done ?_
          refine AQ.next ?_
          refine CW.cond rfl (fun hc62 => ?_) (fun hc62 => ?_)
          · have hcb62 := hc62
            try simp only [decide_eq_true_eq, decide_eq_false_iff_not] at hc62
            have hok : ok = false := by simpa using hcb62
            rw [hok, if_neg (by decide)] at hln
            refine CW.seq ?_
            -- region 11
            refine CW.region ?_
            refine RW.op1 rfl (runs_buildF (cells := [_, _, _, _]) bz44 rfl rfl rfl rfl rfl) ?_
            first
              | refine RW.opE0 (runs_storeW ti44 rfl rfl hst (k := 0) rfl rfl rfl (NoFz.zero _) rfl) ?_
              | refine RW.opE0 (runs_storeP ti44 rfl rfl hst (k := 0) rfl rfl rfl (NoFz.zero _) rfl) ?_
              | refine RW.opE0 (runs_storeW ti44 rfl rfl hst (k := 1) rfl rfl rfl (NoFz.zero _) rfl) ?_
              | refine RW.opE0 (runs_storeP ti44 rfl rfl hst (k := 1) rfl rfl rfl (NoFz.zero _) rfl) ?_
              | refine RW.opE0 (runs_storeW ti44 rfl rfl hst (k := 2) rfl rfl rfl (NoFz.zero _) rfl) ?_
              | refine RW.opE0 (runs_storeP ti44 rfl rfl hst (k := 2) rfl rfl rfl (NoFz.zero _) rfl) ?_
            rintro w hstn
            clear hst
            have hst := hstn
            clear hstn
            try simp only [List.set_cons_zero, List.set_cons_succ] at hst
            refine RW.op1 rfl (runs_assign rfl) ?_
            refine RW.done ?_
            refine AQ.next ?_
            refine CW.ret ?_
            refine AQ.past_ret ?_
            refine AQ.block_ret ?_
            refine AQ.past_ret ?_
            refine AQ.block_ret ?_
            refine AQ.past_ret ?_
            refine AQ.retL (rs := [.cell 2 44, .tmp 3]) (vs := [_, _]) rfl ⟨⟨_, rfl, hst.loadN (vs := [_, _, _, _]) (k := 0) ag44 ti44 rfl rfl rfl⟩, rfl, trivial⟩ (by simp) ?_
            obtain ⟨ho1, ho2⟩ := parseD_no2 (s := s.toList) (by rw [hps, hRR, linesD_none hln]; rfl)
            rw [ho1, ho2]
            exact ⟨_, none, 0, hle, rfl, hst.drop1.drop1.sub (List.sublist_append_right _ _), RdL.nil 2⟩
          · have hcb62 := hc62
            try simp only [decide_eq_true_eq, decide_eq_false_iff_not] at hc62
            have hok : ok = true := by simpa using hcb62
            rw [hok, if_pos rfl] at hln
            have hlp := line_parts hln
            refine CW.skip ?_
            refine AQ.next ?_
            refine CW.seq ?_
            -- region 12
            refine CW.region ?_
            refine RW.op1 rfl (runs_move rfl) ?_
            refine RW.op1 rfl (runs_assign rfl) ?_
            refine RW.done ?_
            refine AQ.next ?_
            refine CW.seq ?_
            refine CW.seq ?_
            -- region 13
            refine CW.region ?_
            refine RW.op1 rfl (runs_move rfl) ?_
            refine RW.op1 rfl (runs_eqS rfl rfl) ?_
            refine RW.done ?_
            refine AQ.next ?_
            refine CW.cond rfl (fun hc66 => ?_) (fun hc66 => ?_)
            · have hcb66 := hc66
              try simp only [decide_eq_true_eq, decide_eq_false_iff_not] at hc66
              have hl0 : l = [] := by rw [emptyL] at hc66; exact strOf_nil.1 hc66
              subst hl0
              refine CW.exit ?_
              refine AQ.past_exit ?_
              refine AQ.block_miss rfl ?_
              refine AQ.past_exit ?_
              refine AQ.block_hit ?_
              refine AQ.next ?_
              refine CW.seq ?_
              -- region 26
              refine CW.region ?_
              refine RW.op1 rfl (runs_move rfl) ?_
              first
                | refine RW.op1 rfl (runs_fieldAddr0 rfl Tryd.underlying44 rfl ti9 (by decide)) ?_
                | refine RW.op1 rfl (runs_fieldAddr rfl Tryd.underlying44 rfl ti9 (by decide)) ?_
              first
                | refine RW.opE0 (runs_store1P ti9 rfl rfl hst (k := 0) rfl rfl (NoFz.zero _) rfl) ?_
                | refine RW.opE0 (runs_store1P ti9 rfl rfl hst (k := 1) rfl rfl (NoFz.zero _) rfl) ?_
                | refine RW.opE0 (runs_store1P ti9 rfl rfl hst (k := 2) rfl rfl (NoFz.zero _) rfl) ?_
              rintro w hstn
              clear hst
              have hst := hstn
              clear hstn
              try simp only [List.set_cons_zero, List.set_cons_succ] at hst
              refine RW.done ?_
              refine AQ.next ?_
              refine CW.seq ?_
              refine CW.seq ?_
              -- region 27
              refine CW.region ?_
              refine RW.op1 rfl (runs_move rfl) ?_
              refine RW.done ?_
              refine AQ.next ?_
              refine CW.cond rfl (fun hc118 => ?_) (fun hc118 => ?_)
              · have hcb118 := hc118
                try simp only [decide_eq_true_eq, decide_eq_false_iff_not] at hc118
                obtain ⟨m, rfl⟩ : ∃ m, had = some m := Option.isSome_iff_exists.1 hc118
                have hm := hhd m rfl
                rw [show (some m).getD 0 = m from rfl]
                refine CW.seq ?_
                -- region 28
                refine CW.region ?_
                refine RW.op1 rfl (runs_move rfl) ?_
                refine RW.op1 rfl (runs_lenS Tryd.underlying9 rfl) ?_
                refine RW.op1 rfl (runs_move rfl) ?_
                refine RW.op1 rfl (runs_lss rfl rfl) ?_
                rw [strOfZ]
                first
                  | refine RW.op1 rfl (runs_fieldAddr0 rfl Tryd.underlying44 rfl ti4 (by decide)) ?_
                  | refine RW.op1 rfl (runs_fieldAddr rfl Tryd.underlying44 rfl ti4 (by decide)) ?_
                first
                  | refine RW.opE0 (runs_store1P ti4 rfl rfl hst (k := 0) rfl rfl (NoFz.zero _) rfl) ?_
                  | refine RW.opE0 (runs_store1P ti4 rfl rfl hst (k := 1) rfl rfl (NoFz.zero _) rfl) ?_
                  | refine RW.opE0 (runs_store1P ti4 rfl rfl hst (k := 2) rfl rfl (NoFz.zero _) rfl) ?_
                rintro w hstn
                clear hst
                have hst := hstn
                clear hstn
                try simp only [List.set_cons_zero, List.set_cons_succ] at hst
                refine RW.done ?_
                refine AQ.next ?_
                -- region 29
                refine CW.region ?_
                refine RW.op1 rfl (runs_move rfl) ?_
                refine RW.op1 rfl (runs_move rfl) ?_
                refine RW.op1 rfl (runs_move rfl) ?_
                refine RW.op1 rfl (runs_lenS Tryd.underlying9 rfl) ?_
                refine RW.op1 rfl (runs_min rfl rfl) ?_
                rw [show (if (((strOf rest).size : Nat) : Int) < m then (((strOf rest).size : Nat) : Int) else m) = ((min m.toNat rest.length : Nat) : Int) by rw [strOfZ]; split <;> omega]
                refine RW.op1 rfl (runs_sliceS_h Tryd.underlying9 rfl rfl (by rw [strOfZ]; omega)) ?_
                rw [show (strOf rest).extract 0 (((min m.toNat rest.length : Nat) : Int)).toNat = strOf (rest.take m.toNat) from by rw [extractE, strOf_toList, Int.toNat_natCast, List.drop_zero, Nat.sub_zero]; rw [take_min m hm.1]]
                first
                  | refine RW.op1 rfl (runs_fieldAddr0 rfl Tryd.underlying44 rfl ti9 (by decide)) ?_
                  | refine RW.op1 rfl (runs_fieldAddr rfl Tryd.underlying44 rfl ti9 (by decide)) ?_
                first
                  | refine RW.opE0 (runs_store1P ti9 rfl rfl hst (k := 0) rfl rfl (NoFz.zero _) rfl) ?_
                  | refine RW.opE0 (runs_store1P ti9 rfl rfl hst (k := 1) rfl rfl (NoFz.zero _) rfl) ?_
                  | refine RW.opE0 (runs_store1P ti9 rfl rfl hst (k := 2) rfl rfl (NoFz.zero _) rfl) ?_
                rintro w hstn
                clear hst
                have hst := hstn
                clear hstn
                try simp only [List.set_cons_zero, List.set_cons_succ] at hst
                refine RW.done ?_
                refine AQ.next ?_
                refine CW.seq ?_
                -- region 30
                refine CW.region ?_
                first
                  | refine RW.op1 rfl (runs_loadN (vs := [_, _, _, _]) ag44 ti44 rfl hst (k := 0) rfl rfl rfl) ?_
                  | refine RW.op1 rfl (runs_loadN (vs := [_, _, _, _]) ag44 ti44 rfl hst (k := 1) rfl rfl rfl) ?_
                  | refine RW.op1 rfl (runs_loadN (vs := [_, _, _, _]) ag44 ti44 rfl hst (k := 2) rfl rfl rfl) ?_
                refine RW.opE0 (runs_storeW ti44 rfl rfl hst (k := 0) rfl rfl rfl (NoFz.zero _) (all4b _ _ _ hg2.one)) ?_
                rintro w hstn
                clear hst
                have hst := hstn
                clear hstn
                try simp only [List.set_cons_zero, List.set_cons_succ] at hst
                refine RW.op1 rfl (runs_assign rfl) ?_
                refine RW.done ?_
                refine AQ.next ?_
                refine CW.ret ?_
                refine AQ.retL (rs := [.cell 2 44, .tmp 3]) (vs := [_, _]) rfl ⟨⟨_, rfl, hst.loadN (vs := [_, _, _, _]) (k := 0) ag44 ti44 rfl rfl rfl⟩, rfl, trivial⟩ (by simp) ?_
                obtain ⟨I', h1, h2, h3⟩ := hg2.freeze hst.drop1.drop1
                obtain ⟨ho1, ho2⟩ := parseD_yes (s := s.toList) (r := ⟨code, acc, rest.take m.toNat, decide ((rest.length : Int) < m)⟩) (by rw [hps, hRR, linesD_last hln]; simp)
                rw [ho1, ho2]
                have h4 := h3
                obtain ⟨_, _, A, cap, e1, _⟩ := h4
                subst e1
                refine ⟨I', A, cap, hle.trans h1, rfl, h2, ?_⟩
                unfold RdH
                rw [List.length_map]
                exact h3
              · have hcb118 := hc118
                try simp only [decide_eq_true_eq, decide_eq_false_iff_not] at hc118
                have hh : had = none := by
                  cases had with
                  | none => rfl
                  | some m => cases hc118
                subst hh
                refine CW.skip ?_
                refine AQ.next ?_
                refine CW.seq ?_
                -- region 30
                refine CW.region ?_
                first
                  | refine RW.op1 rfl (runs_loadN (vs := [_, _, _, _]) ag44 ti44 rfl hst (k := 0) rfl rfl rfl) ?_
                  | refine RW.op1 rfl (runs_loadN (vs := [_, _, _, _]) ag44 ti44 rfl hst (k := 1) rfl rfl rfl) ?_
                  | refine RW.op1 rfl (runs_loadN (vs := [_, _, _, _]) ag44 ti44 rfl hst (k := 2) rfl rfl rfl) ?_
                refine RW.opE0 (runs_storeW ti44 rfl rfl hst (k := 0) rfl rfl rfl (NoFz.zero _) (all4b _ _ _ hg2.one)) ?_
                rintro w hstn
                clear hst
                have hst := hstn
                clear hstn
                try simp only [List.set_cons_zero, List.set_cons_succ] at hst
                refine RW.op1 rfl (runs_assign rfl) ?_
                refine RW.done ?_
                refine AQ.next ?_
                refine CW.ret ?_
                refine AQ.retL (rs := [.cell 2 44, .tmp 3]) (vs := [_, _]) rfl ⟨⟨_, rfl, hst.loadN (vs := [_, _, _, _]) (k := 0) ag44 ti44 rfl rfl rfl⟩, rfl, trivial⟩ (by simp) ?_
                obtain ⟨I', h1, h2, h3⟩ := hg2.freeze hst.drop1.drop1
                obtain ⟨ho1, ho2⟩ := parseD_yes (s := s.toList) (r := ⟨code, acc, rest, false⟩) (by rw [hps, hRR, linesD_last hln]; simp)
                rw [ho1, ho2]
                have h4 := h3
                obtain ⟨_, _, A, cap, e1, _⟩ := h4
                subst e1
                refine ⟨I', A, cap, hle.trans h1, rfl, h2, ?_⟩
                unfold RdH
                rw [List.length_map]
                exact h3
            · have hcb66 := hc66
              try simp only [decide_eq_true_eq, decide_eq_false_iff_not] at hc66
              have hl0 : l ≠ [] := fun h => by rw [emptyL, strOf_toList, h] at hc66; exact absurd hc66 (by decide)
              obtain ⟨n, v, fb, hcut, hun, hnl, hvl⟩ := until_cut l
              have hone := one_of hcut
              refine CW.skip ?_
              refine AQ.next ?_
              refine CW.seq ?_
              -- region 14
              refine CW.region ?_
              refine RW.op1 rfl (runs_move rfl) ?_
              refine RW.call rfl call29 rfl rfl (until_spec hst (strOf l) ⟨#[58]⟩ (by rw [strOfZ]; omega) (by decide)) ?_
              rintro e w ⟨rfl, hstn⟩
              clear hst
              have hst := hstn
              clear hstn
              rw [hz58, strOf_toList, hun]
              dsimp only
              refine ⟨_, rfl, ?_⟩
              refine RW.op1 rfl (runs_move rfl) ?_
              refine RW.op1 rfl (runs_extract rfl rfl) ?_
              refine RW.op1 rfl (runs_extract rfl rfl) ?_
              refine RW.op1 rfl (runs_assign rfl) ?_
              refine RW.op1 rfl (runs_assign rfl) ?_
              refine RW.done ?_
              refine AQ.next ?_
              refine CW.seq ?_
              refine CW.seq ?_
              -- region 15
              refine CW.region ?_
              refine RW.op1 rfl (runs_move rfl) ?_
              refine RW.op1 rfl (runs_eqS rfl rfl) ?_
              refine RW.done ?_
              refine AQ.next ?_
              refine CW.cond rfl (fun hc73 => ?_) (fun hc73 => ?_)
              · have hcb73 := hc73
                try simp only [decide_eq_true_eq, decide_eq_false_iff_not] at hc73
                have hfb : fb = false := by
                  cases fb with
                  | false => rfl
                  | true => rw [emptyL, strOf_toList] at hc73; simp at hc73
                refine CW.seq ?_
                -- region 16
                refine CW.region ?_
                refine RW.op1 rfl (runs_buildF (cells := [_, _, _, _]) bz44 rfl rfl rfl rfl rfl) ?_
                first
                  | refine RW.opE0 (runs_storeW ti44 rfl rfl hst (k := 0) rfl rfl rfl (NoFz.zero _) rfl) ?_
                  | refine RW.opE0 (runs_storeP ti44 rfl rfl hst (k := 0) rfl rfl rfl (NoFz.zero _) rfl) ?_
                  | refine RW.opE0 (runs_storeW ti44 rfl rfl hst (k := 1) rfl rfl rfl (NoFz.zero _) rfl) ?_
                  | refine RW.opE0 (runs_storeP ti44 rfl rfl hst (k := 1) rfl rfl rfl (NoFz.zero _) rfl) ?_
                  | refine RW.opE0 (runs_storeW ti44 rfl rfl hst (k := 2) rfl rfl rfl (NoFz.zero _) rfl) ?_
                  | refine RW.opE0 (runs_storeP ti44 rfl rfl hst (k := 2) rfl rfl rfl (NoFz.zero _) rfl) ?_
                rintro w hstn
                clear hst
                have hst := hstn
                clear hstn
                try simp only [List.set_cons_zero, List.set_cons_succ] at hst
                refine RW.op1 rfl (runs_assign rfl) ?_
                refine RW.done ?_
                refine AQ.next ?_
                refine CW.ret ?_
                refine AQ.past_ret ?_
                refine AQ.block_ret ?_
                refine AQ.past_ret ?_
                refine AQ.block_ret ?_
                refine AQ.past_ret ?_
                refine AQ.retL (rs := [.cell 2 44, .tmp 3]) (vs := [_, _]) rfl ⟨⟨_, rfl, hst.loadN (vs := [_, _, _, _]) (k := 0) ag44 ti44 rfl rfl rfl⟩, rfl, trivial⟩ (by simp) ?_
                obtain ⟨ho1, ho2⟩ := parseD_no2 (s := s.toList) (by rw [hps, hRR, linesD_bad hln hl0 (.inl (by rw [hone, hfb]; exact if_neg (by simp)))]; rfl)
                rw [ho1, ho2]
                exact ⟨_, none, 0, hle, rfl, hst.drop1.drop1.sub (List.sublist_append_right _ _), RdL.nil 2⟩
              · have hcb73 := hc73
                try simp only [decide_eq_true_eq, decide_eq_false_iff_not] at hc73
                have hfb : fb = true := by
                  cases fb with
                  | true => rfl
                  | false => rw [if_neg (by decide), emptyL, strOf_toList] at hc73; cases hc73
                subst hfb
                rw [if_pos rfl] at *
                refine CW.skip ?_
                refine AQ.next ?_
                refine CW.seq ?_
                -- region 17
                refine CW.region ?_
                refine RW.op1 rfl (runs_move rfl) ?_
                refine RW.op1 rfl (runs_sliceS_l Tryd.underlying9 rfl rfl (by rw [strOfZ, List.length_cons]; omega)) ?_
                rw [show (strOf (58 :: v)).extract ((1 : Int)).toNat (strOf (58 :: v)).size = strOf v from by rw [extractE, strOf_toList, show ((1 : Int)).toNat = 1 from rfl, List.drop_succ_cons, List.drop_zero, List.take_of_length_le (by rw [strOfZ, List.length_cons]; omega)]]
                refine RW.call rfl call30 rfl rfl (blanks_spec hst (strOf v) (by rw [strOfZ]; omega)) ?_
                rintro e w ⟨rfl, hstn⟩
                clear hst
                have hst := hstn
                clear hstn
                rw [strOf_toList]
                have htl : (Lib.trimB v 32).length ≤ v.length := trim_len v
                obtain ⟨tv, htv⟩ : ∃ t, Lib.trimB v 32 = t := ⟨_, rfl⟩
                rw [htv] at hone htl ⊢
                have htA : 0 < tv.length → tv.getD 0 0 ≠ 32 := by
                  intro h0
                  cases htv2 : tv with
                  | nil => rw [htv2] at h0; cases h0
                  | cons c r => exact trimL_head (htv.trans htv2)
                have htB : 0 < tv.length → tv.getD (tv.length - 1) 0 ≠ 32 := fun h0 => trimR_last (htv.trans (last_split h0))
                refine ⟨_, rfl, ?_⟩
                refine RW.op1 rfl (runs_assign rfl) ?_
                refine RW.done ?_
                refine AQ.next ?_
                refine CW.seq ?_
                refine CW.seq ?_
                -- region 18
                refine CW.cut Unit (fun _ w => St w0 w I2 ((b1, Obj.cells (Value.agg #[.int .i64 (0), .slice none 0 0, .string ⟨#[]⟩, .bool false]).cells 44) :: (b7, Obj.cells (Value.agg #[.int .i64 (code), v2, .string ⟨#[]⟩, .bool false]).cells 44) :: (Lv2 ++ L))) (fun _ => [(0, .string (strOf rest)), (2, .pointer (some ⟨b1, 0, none⟩)), (7, .pointer (some ⟨b7, 0, none⟩)), (8, .int .i64 (had.getD 0)), (9, .bool had.isSome), (13, .string (strOf n)), (14, .string (strOf tv)), (91, .bool (decide (¬ (nmOk n = true ∧ vlOk tv = true ∧ acc.length ≠ 8))))]) ?_ ?_
                · -- region 18
                  refine CW.region ?_
                  refine RW.op1 rfl (runs_move rfl) ?_
                  refine RW.call rfl call31 rfl rfl (named_spec hst (strOf n) (by rw [strOfZ]; omega)) ?_
                  rintro e w ⟨rfl, hstn⟩
                  clear hst
                  have hst := hstn
                  clear hstn
                  rw [strOf_toList]
                  refine ⟨_, rfl, ?_⟩
                  refine RW.op1 rfl (runs_not rfl) ?_
                  refine RW.op1 rfl (runs_move rfl) ?_
                  refine RW.split (t := 81) rfl (fun hb81 => ?_) (fun hb81 => ?_)
                  · have hb81p := hb81
                    try simp only [decide_eq_true_eq, decide_eq_false_iff_not] at hb81p
                    refine RW.off_guard rfl rfl rfl rfl hb81 ?_
                    refine RW.off_guard rfl rfl rfl rfl hb81 ?_
                    refine RW.off_guard rfl rfl rfl rfl hb81 ?_
                    refine RW.op1 rfl (runs_pick_true rfl hb81 rfl) ?_
                    refine RW.op1 rfl (runs_move rfl) ?_
                    refine RW.off_guard rfl rfl rfl rfl rfl ?_
                    refine RW.off_guard rfl rfl rfl rfl rfl ?_
                    refine RW.off_guard rfl rfl rfl rfl rfl ?_
                    refine RW.off_guard rfl rfl rfl rfl rfl ?_
                    refine RW.op1 rfl (runs_pick_true rfl rfl rfl) ?_
                    refine RW.done ?_
                    exact AQ.meet () hst ⟨rfl, rfl, rfl, rfl, rfl, rfl, rfl, boolN (by clear hRR hone hps hst hR; cases h1 : nmOk n <;> cases h2 : vlOk tv <;> simp [h1, h2] at * <;> omega), trivial⟩
                  · have hb81p := hb81
                    try simp only [decide_eq_true_eq, decide_eq_false_iff_not] at hb81p
                    refine RW.on_guard rfl rfl rfl rfl hb81 ?_
                    refine RW.op1 rfl (runs_move rfl) ?_
                    refine RW.on_guard rfl rfl rfl rfl hb81 ?_
                    refine RW.call rfl call32 rfl rfl (valued_spec hst (strOf tv) (by rw [strOfZ]; omega) (by rw [strOf_toList]; exact htA) (by rw [strOf_toList]; exact htB)) ?_
                    rintro e w ⟨rfl, hstn⟩
                    clear hst
                    have hst := hstn
                    clear hstn
                    rw [strOf_toList]
                    refine ⟨_, rfl, ?_⟩
                    refine RW.on_guard rfl rfl rfl rfl hb81 ?_
                    refine RW.op1 rfl (runs_not rfl) ?_
                    refine RW.op1 rfl (runs_pick_false rfl hb81 rfl) ?_
                    refine RW.op1 rfl (runs_move rfl) ?_
                    refine RW.split (t := 86) rfl (fun hb86 => ?_) (fun hb86 => ?_)
                    · have hb86p := hb86
                      try simp only [decide_eq_true_eq, decide_eq_false_iff_not] at hb86p
                      refine RW.off_guard rfl rfl rfl rfl hb86 ?_
                      refine RW.off_guard rfl rfl rfl rfl hb86 ?_
                      refine RW.off_guard rfl rfl rfl rfl hb86 ?_
                      refine RW.off_guard rfl rfl rfl rfl hb86 ?_
                      refine RW.op1 rfl (runs_pick_true rfl hb86 rfl) ?_
                      refine RW.done ?_
                      exact AQ.meet () hst ⟨rfl, rfl, rfl, rfl, rfl, rfl, rfl, boolN (by clear hRR hone hps hst hR; cases h1 : nmOk n <;> cases h2 : vlOk tv <;> simp [h1, h2] at * <;> omega), trivial⟩
                    · have hb86p := hb86
                      try simp only [decide_eq_true_eq, decide_eq_false_iff_not] at hb86p
                      refine RW.on_guard rfl rfl rfl rfl hb86 ?_
                      first
                        | refine RW.op1 rfl (runs_fieldAddr0 rfl Tryd.underlying44 rfl ti23 (by decide)) ?_
                        | refine RW.op1 rfl (runs_fieldAddr rfl Tryd.underlying44 rfl ti23 (by decide)) ?_
                      refine RW.on_guard rfl rfl rfl rfl hb86 ?_
                      first
                        | refine RW.op1 rfl (runs_load1 sc23 rfl (hst.cell_own (k := 0) rfl rfl)) ?_
                        | refine RW.op1 rfl (runs_load1 sc23 rfl (hst.cell_own (k := 1) rfl rfl)) ?_
                        | refine RW.op1 rfl (runs_load1 sc23 rfl (hst.cell_own (k := 2) rfl rfl)) ?_
                      refine RW.on_guard rfl rfl rfl rfl hb86 ?_
                      refine RW.op1 rfl (Grow.len Tryd.underlying23 rfl hg2) ?_
                      refine RW.on_guard rfl rfl rfl rfl hb86 ?_
                      refine RW.op1 rfl (runs_eqI rfl rfl) ?_
                      refine RW.op1 rfl (runs_pick_false rfl hb86 rfl) ?_
                      refine RW.done ?_
                      exact AQ.meet () hst ⟨rfl, rfl, rfl, rfl, rfl, rfl, rfl, boolN (by clear hRR hone hps hst hR; cases h1 : nmOk n <;> cases h2 : vlOk tv <;> simp [h1, h2] at * <;> omega), trivial⟩
                · rintro _ w hstn
                  clear hst
                  have hst := hstn
                  clear hstn
                  refine AQ.next ?_
                  refine CW.cond rfl (fun hc91 => ?_) (fun hc91 => ?_)
                  · have hcb91 := hc91
                    try simp only [decide_eq_true_eq, decide_eq_false_iff_not] at hc91
                    have h91 : ¬ (nmOk n = true ∧ vlOk tv = true ∧ acc.length ≠ 8) := of_decide_eq_true hcb91
                    refine CW.seq ?_
                    -- region 19
                    refine CW.region ?_
                    refine RW.op1 rfl (runs_buildF (cells := [_, _, _, _]) bz44 rfl rfl rfl rfl rfl) ?_
                    first
                      | refine RW.opE0 (runs_storeW ti44 rfl rfl hst (k := 0) rfl rfl rfl (NoFz.zero _) rfl) ?_
                      | refine RW.opE0 (runs_storeP ti44 rfl rfl hst (k := 0) rfl rfl rfl (NoFz.zero _) rfl) ?_
                      | refine RW.opE0 (runs_storeW ti44 rfl rfl hst (k := 1) rfl rfl rfl (NoFz.zero _) rfl) ?_
                      | refine RW.opE0 (runs_storeP ti44 rfl rfl hst (k := 1) rfl rfl rfl (NoFz.zero _) rfl) ?_
                      | refine RW.opE0 (runs_storeW ti44 rfl rfl hst (k := 2) rfl rfl rfl (NoFz.zero _) rfl) ?_
                      | refine RW.opE0 (runs_storeP ti44 rfl rfl hst (k := 2) rfl rfl rfl (NoFz.zero _) rfl) ?_
                    rintro w hstn
                    clear hst
                    have hst := hstn
                    clear hstn
                    try simp only [List.set_cons_zero, List.set_cons_succ] at hst
                    refine RW.op1 rfl (runs_assign rfl) ?_
                    refine RW.done ?_
                    refine AQ.next ?_
                    refine CW.ret ?_
                    refine AQ.past_ret ?_
                    refine AQ.block_ret ?_
                    refine AQ.past_ret ?_
                    refine AQ.block_ret ?_
                    refine AQ.past_ret ?_
                    refine AQ.retL (rs := [.cell 2 44, .tmp 3]) (vs := [_, _]) rfl ⟨⟨_, rfl, hst.loadN (vs := [_, _, _, _]) (k := 0) ag44 ti44 rfl rfl rfl⟩, rfl, trivial⟩ (by simp) ?_
                    obtain ⟨ho1, ho2⟩ := parseD_no2 (s := s.toList) (by
                      rw [hps, hRR, linesD_bad hln hl0 (by
                        by_cases h8 : acc.length = 8
                        · exact .inr (by omega)
                        · exact .inl (by rw [hone]; exact if_neg (fun h => h91 ⟨h.2.1, h.2.2, h8⟩)))]
                      rfl)
                    rw [ho1, ho2]
                    exact ⟨_, none, 0, hle, rfl, hst.drop1.drop1.sub (List.sublist_append_right _ _), RdL.nil 2⟩
                  · have hcb91 := hc91
                    try simp only [decide_eq_true_eq, decide_eq_false_iff_not] at hc91
                    have h91 : nmOk n = true ∧ vlOk tv = true ∧ acc.length ≠ 8 := by simpa using hcb91
                    rw [if_pos ⟨rfl, h91.1, h91.2.1⟩] at hone
                    obtain ⟨f, rfl⟩ : ∃ g, f = g + 1 := ⟨f - 1, by omega⟩
                    have hnx := linesD_next (f := f) (had := had) hln hl0 hone
                    dsimp only at hnx
                    refine CW.skip ?_
                    refine AQ.next ?_
                    refine CW.seq ?_
                    -- region 20
                    refine CW.region ?_
                    first
                      | refine RW.op1 rfl (runs_fieldAddr0 rfl Tryd.underlying44 rfl ti23 (by decide)) ?_
                      | refine RW.op1 rfl (runs_fieldAddr rfl Tryd.underlying44 rfl ti23 (by decide)) ?_
                    first
                      | refine RW.op1 rfl (runs_load1 sc23 rfl (hst.cell_own (k := 0) rfl rfl)) ?_
                      | refine RW.op1 rfl (runs_load1 sc23 rfl (hst.cell_own (k := 1) rfl rfl)) ?_
                      | refine RW.op1 rfl (runs_load1 sc23 rfl (hst.cell_own (k := 2) rfl rfl)) ?_
                    refine RW.op1 rfl (runs_move rfl) ?_
                    refine RW.op1 rfl (runs_move rfl) ?_
                    refine RW.op1 rfl (runs_buildF (cells := [_, _]) bz27 rfl rfl rfl rfl rfl) ?_
                    refine RW.opE rfl (runs_litF (xs := [.agg #[_, _]]) Tryd.underlying23 ti27 (by decide) rfl rfl rfl rfl rfl hst (by decide)) ?_
                    rintro u22 w ⟨Lv22, hstn, hg22⟩
                    clear hst
                    have hst := hstn
                    clear hstn
                    obtain ⟨J22, hJ22, hstn, h22⟩ := Grow.freeze hg22 hst
                    clear hst
                    have hst := hstn
                    clear hstn
                    replace hle := hle.trans hJ22
                    try simp only [List.nil_append] at h22
                    replace h22 : RdL J22 2 u22 1 (hrow (hrowL (n, tv))) := h22
                    have hL := h22
                    refine RW.opE rfl (runs_appendRA [_, _] Tryd.underlying23 ti27 rfl (by decide) rfl rfl hst hg2 hL (by omega) (by unfold maxLen; omega)) ?_
                    rintro uN w ⟨LvN, hstn, hgN⟩
                    clear hst
                    have hst := hstn
                    clear hstn
                    have hg3 : Grow 27 2 uN (acc ++ [(n, tv)]).length (((acc ++ [(n, tv)]).map hrowL).flatMap hrow) LvN := by
                      rw [List.length_append, List.map_append, List.flatMap_append]
                      exact hgN
                    replace hst : St w0 _ _ ((b1, Obj.cells (Value.agg #[.int .i64 (0), .slice none 0 0, .string ⟨#[]⟩, .bool false]).cells 44) :: (b7, Obj.cells (Value.agg #[.int .i64 (code), v2, .string ⟨#[]⟩, .bool false]).cells 44) :: (LvN ++ L)) := hst
                    first
                      | refine RW.op1 rfl (runs_fieldAddr0 rfl Tryd.underlying44 rfl ti23 (by decide)) ?_
                      | refine RW.op1 rfl (runs_fieldAddr rfl Tryd.underlying44 rfl ti23 (by decide)) ?_
                    refine RW.opE0 (runs_store1P ti23 rfl rfl hst (k := 1) rfl rfl (NoFz.zero _) hg3.one) ?_
                    rintro w hstn
                    clear hst
                    have hst := hstn
                    clear hstn
                    try simp only [List.set_cons_zero, List.set_cons_succ] at hst
                    refine RW.done ?_
                    refine AQ.next ?_
                    refine CW.seq ?_
                    -- region 21
                    refine CW.region ?_
                    refine RW.op1 rfl (runs_move rfl) ?_
                    refine RW.call rfl call33 rfl rfl (refLower_spec hst (strOf n) (by rw [strOfZ]; omega)) ?_
                    rintro e w ⟨I25, hI25, rfl, hstn⟩
                    clear hst
                    have hst := hstn
                    clear hstn
                    rw [strOf_toList]
                    replace h22 := h22.mono hI25
                    replace hL := hL.mono hI25
                    replace hle := hle.trans hI25
                    refine ⟨_, rfl, ?_⟩
                    refine RW.op1 rfl (runs_eqS rfl rfl) ?_
                    refine RW.done ?_
                    refine AQ.next ?_
                    refine CW.cond rfl (fun hc103 => ?_) (fun hc103 => ?_)
                    · have hcb103 := hc103
                      try simp only [decide_eq_true_eq, decide_eq_false_iff_not] at hc103
                      have h103 : isCL n = true := by
                        unfold isCL
                        rw [strOf_toList] at hcb103
                        rw [show clL = (ByteArray.mk #[99, 111, 110, 116, 101, 110, 116, 45, 108, 101, 110, 103, 116, 104]).toList from by rw [ByteArray.toList_eq]; rfl]
                        exact hcb103
                      rw [if_pos h103] at hnx
                      refine CW.seq ?_
                      -- region 22
                      refine CW.region ?_
                      refine RW.op1 rfl (runs_move rfl) ?_
                      refine RW.call rfl call19 rfl rfl (figures_spec hst (strOf tv) (by rw [strOfZ]; omega)) ?_
                      rintro e w ⟨rfl, hstn⟩
                      clear hst
                      have hst := hstn
                      clear hstn
                      rw [strOf_toList]
                      have hqr := number_rng tv
                      obtain ⟨m, hm⟩ : ∃ m, numberR tv = m := ⟨_, rfl⟩
                      rw [hm] at hnx hqr ⊢
                      refine ⟨_, rfl, ?_⟩
                      refine RW.op1 rfl (runs_move rfl) ?_
                      refine RW.op1 rfl (runs_extract rfl rfl) ?_
                      refine RW.op1 rfl (runs_extract rfl rfl) ?_
                      refine RW.op1 rfl (runs_assign rfl) ?_
                      refine RW.op1 rfl (runs_assign rfl) ?_
                      refine RW.done ?_
                      refine AQ.next ?_
                      refine CW.seq ?_
                      refine CW.seq ?_
                      -- region 23
                      refine CW.region ?_
                      refine RW.op1 rfl (runs_move rfl) ?_
                      refine RW.op1 rfl (runs_not rfl) ?_
                      refine RW.op1 rfl (runs_move rfl) ?_
                      refine RW.split (t := 111) rfl (fun hb111 => ?_) (fun hb111 => ?_)
                      · have hb111p := hb111
                        try simp only [decide_eq_true_eq, decide_eq_false_iff_not] at hb111p
                        have hnb : linesD (f + 1) cur had = none := by rw [hnx]; exact if_neg (fun h => by rw [h.1] at hb111; simp at hb111)
                        refine RW.off_guard rfl rfl rfl rfl hb111 ?_
                        refine RW.op1 rfl (runs_pick_true rfl hb111 rfl) ?_
                        refine RW.done ?_
                        refine AQ.next ?_
                        skip
                        refine CW.cond_true rfl ?_
                        refine CW.seq ?_
                        -- region 24
                        refine CW.region ?_
                        refine RW.op1 rfl (runs_buildF (cells := [_, _, _, _]) bz44 rfl rfl rfl rfl rfl) ?_
                        first
                          | refine RW.opE0 (runs_storeW ti44 rfl rfl hst (k := 0) rfl rfl rfl (NoFz.zero _) rfl) ?_
                          | refine RW.opE0 (runs_storeP ti44 rfl rfl hst (k := 0) rfl rfl rfl (NoFz.zero _) rfl) ?_
                          | refine RW.opE0 (runs_storeW ti44 rfl rfl hst (k := 1) rfl rfl rfl (NoFz.zero _) rfl) ?_
                          | refine RW.opE0 (runs_storeP ti44 rfl rfl hst (k := 1) rfl rfl rfl (NoFz.zero _) rfl) ?_
                          | refine RW.opE0 (runs_storeW ti44 rfl rfl hst (k := 2) rfl rfl rfl (NoFz.zero _) rfl) ?_
                          | refine RW.opE0 (runs_storeP ti44 rfl rfl hst (k := 2) rfl rfl rfl (NoFz.zero _) rfl) ?_
                        rintro w hstn
                        clear hst
                        have hst := hstn
                        clear hstn
                        try simp only [List.set_cons_zero, List.set_cons_succ] at hst
                        refine RW.op1 rfl (runs_assign rfl) ?_
                        refine RW.done ?_
                        refine AQ.next ?_
                        refine CW.ret ?_
                        refine AQ.past_ret ?_
                        refine AQ.block_ret ?_
                        refine AQ.past_ret ?_
                        refine AQ.block_ret ?_
                        refine AQ.past_ret ?_
                        refine AQ.retL (rs := [.cell 2 44, .tmp 3]) (vs := [_, _]) rfl ⟨⟨_, rfl, hst.loadN (vs := [_, _, _, _]) (k := 0) ag44 ti44 rfl rfl rfl⟩, rfl, trivial⟩ (by simp) ?_
                        obtain ⟨ho1, ho2⟩ := parseD_no2 (s := s.toList) (by rw [hps, hRR, hnb]; rfl)
                        rw [ho1, ho2]
                        exact ⟨_, none, 0, hle, rfl, hst.drop1.drop1.sub (List.sublist_append_right _ _), RdL.nil 2⟩
                      · have hb111p := hb111
                        try simp only [decide_eq_true_eq, decide_eq_false_iff_not] at hb111p
                        have hms : m.isSome = true := by simpa using hb111
                        refine RW.on_guard rfl rfl rfl rfl hb111 ?_
                        refine RW.op1 rfl (runs_move rfl) ?_
                        refine RW.op1 rfl (runs_pick_false rfl hb111 rfl) ?_
                        refine RW.done ?_
                        refine AQ.next ?_
                        refine CW.cond rfl (fun hc113 => ?_) (fun hc113 => ?_)
                        · have hcb113 := hc113
                          try simp only [decide_eq_true_eq, decide_eq_false_iff_not] at hc113
                          skip
                          refine CW.seq ?_
                          -- region 24
                          refine CW.region ?_
                          refine RW.op1 rfl (runs_buildF (cells := [_, _, _, _]) bz44 rfl rfl rfl rfl rfl) ?_
                          first
                            | refine RW.opE0 (runs_storeW ti44 rfl rfl hst (k := 0) rfl rfl rfl (NoFz.zero _) rfl) ?_
                            | refine RW.opE0 (runs_storeP ti44 rfl rfl hst (k := 0) rfl rfl rfl (NoFz.zero _) rfl) ?_
                            | refine RW.opE0 (runs_storeW ti44 rfl rfl hst (k := 1) rfl rfl rfl (NoFz.zero _) rfl) ?_
                            | refine RW.opE0 (runs_storeP ti44 rfl rfl hst (k := 1) rfl rfl rfl (NoFz.zero _) rfl) ?_
                            | refine RW.opE0 (runs_storeW ti44 rfl rfl hst (k := 2) rfl rfl rfl (NoFz.zero _) rfl) ?_
                            | refine RW.opE0 (runs_storeP ti44 rfl rfl hst (k := 2) rfl rfl rfl (NoFz.zero _) rfl) ?_
                          rintro w hstn
                          clear hst
                          have hst := hstn
                          clear hstn
                          try simp only [List.set_cons_zero, List.set_cons_succ] at hst
                          refine RW.op1 rfl (runs_assign rfl) ?_
                          refine RW.done ?_
                          refine AQ.next ?_
                          refine CW.ret ?_
                          refine AQ.past_ret ?_
                          refine AQ.block_ret ?_
                          refine AQ.past_ret ?_
                          refine AQ.block_ret ?_
                          refine AQ.past_ret ?_
                          refine AQ.retL (rs := [.cell 2 44, .tmp 3]) (vs := [_, _]) rfl ⟨⟨_, rfl, hst.loadN (vs := [_, _, _, _]) (k := 0) ag44 ti44 rfl rfl rfl⟩, rfl, trivial⟩ (by simp) ?_
                          obtain ⟨ho1, ho2⟩ := parseD_no2 (s := s.toList) (by
                            have hh : had.isSome = true := hcb113
                            rw [hps, hRR, hnx, if_neg (fun h => by rw [h.2] at hh; cases hh)]
                            rfl)
                          rw [ho1, ho2]
                          exact ⟨_, none, 0, hle, rfl, hst.drop1.drop1.sub (List.sublist_append_right _ _), RdL.nil 2⟩
                        · have hcb113 := hc113
                          try simp only [decide_eq_true_eq, decide_eq_false_iff_not] at hc113
                          skip
                          refine CW.skip ?_
                          refine AQ.next ?_
                          -- region 25
                          refine CW.region ?_
                          refine RW.op1 rfl (runs_move rfl) ?_
                          refine RW.op1 rfl (runs_assign rfl) ?_
                          refine RW.op1 rfl (runs_assign rfl) ?_
                          refine RW.done ?_
                          refine AQ.block_normal ?_
                          have hh : had = none := by
                            have : had.isSome = false := hcb113
                            cases had with
                            | none => rfl
                            | some _ => cases this
                          rw [if_pos ⟨hms, hh⟩] at hnx
                          exact AQ.again (x := (f + 1, I2, v2, Lv2, acc, cur, had)) (f, _, uN, LvN, acc ++ [(n, tv)], rest, m) ⟨hle, hst, hg3, by simp; omega, by dsimp only; omega, (fun k hk => by subst hk; have h5 := hqr.1; have h6 := hqr.2; simp only [Option.getD_some] at h5 h6; omega), by
                            rw [hRR, hnx]
                            cases linesD f rest m <;> simp⟩ ⟨rfl, rfl, rfl, rfl, by rw [hms]; rfl, trivial⟩ (by dsimp only; omega)
                    · have hcb103 := hc103
                      try simp only [decide_eq_true_eq, decide_eq_false_iff_not] at hc103
                      have h103 : isCL n = false := by
                        unfold isCL
                        rw [strOf_toList] at hcb103
                        rw [show clL = (ByteArray.mk #[99, 111, 110, 116, 101, 110, 116, 45, 108, 101, 110, 103, 116, 104]).toList from by rw [ByteArray.toList_eq]; rfl]
                        exact hcb103
                      rw [if_neg (by simp [h103])] at hnx
                      refine CW.skip ?_
                      refine AQ.block_normal ?_
                      exact AQ.again (x := (f + 1, I2, v2, Lv2, acc, cur, had)) (f, _, uN, LvN, acc ++ [(n, tv)], rest, had) ⟨hle, hst, hg3, by simp; omega, by dsimp only; omega, hhd, by
                        rw [hRR, hnx]
                        cases linesD f rest had <;> simp⟩ ⟨rfl, rfl, rfl, rfl, rfl, trivial⟩ (by dsimp only; omega)
end Go.Proofs.YtfjghkmapccjhaaDoorX
