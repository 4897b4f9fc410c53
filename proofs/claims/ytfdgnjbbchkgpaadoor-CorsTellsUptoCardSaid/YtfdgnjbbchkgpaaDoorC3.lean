/- Unsafe headers: what these come to. -/
import Derived.Test.YtfdgnjbbchkgpaaDoorT
import Derived.Test.YtfdgnjbbchkgpaaDoorC2
import Derived.Test.YtfdgnjbbchkgpaaDoorXS
namespace Go.Proofs.YtfdgnjbbchkgpaaDoorX
set_option linter.unusedVariables false
set_option linter.unusedSimpArgs false
open Go Go.RowKit Go.Proofs

theorem runs_appendRA {P : Program} {l : Env} {ty : TypeId} (A : Own) {w0 w : World} {I : Imm} {L : Own} {t e : TypeId} {z : Value} {size bytes : Nat} (ht : P.underlying t = some (.slice e)) (he : TI P e z size bytes) (hz : z.cells.size = size) (h0 : 0 < size) {x y : Operand} {v u : Value} {n m : Nat} {xs news : List Value} {Lv : Own} (hx : ev l x = some v) (hy : ev l y = some u)
    (hst : St w0 w I (A ++ (Lv ++ L))) (hg : Grow e size v n xs Lv) (hr : RdL I size u m news) (hb : (n + m) * bytes ≤ 140737488355328) (hmax : n + m ≤ maxLen) :
    ∃ v' w', Runs P (.call ⟨.builtin .append, #[x, y], #[t, t]⟩) ty l w (.value v') w' ∧ ∃ Lv', St w0 w' I (A ++ (Lv' ++ L)) ∧ Grow e size v' (n + m) (xs ++ news) Lv' := by
  have hp : ∀ X : Own, (A ++ (X ++ L)).Perm (X ++ (A ++ L)) := fun X => by
    rw [← List.append_assoc, ← List.append_assoc]
    exact List.perm_append_comm.append_right L
  obtain ⟨v', w', h1, Lv', h2, h3⟩ := runs_appendR (ty := ty) ht he hz h0 hx hy (hst.perm (hp Lv)) hg hr hb hmax
  exact ⟨v', w', h1, Lv', h2.perm (hp Lv').symm, h3⟩
theorem wrap_ok (n : Int) : i64ok (IntKind.i64.wrap n) := by rw [IntKind.wrap_i64]; unfold i64ok; omega
theorem Grow.one {e : TypeId} {size n : Nat} {v : Value} {xs : List Value} {Lv : Own} (h : Grow e size v n xs Lv) : v.oneCell' = true := by
  obtain ⟨_, _, ⟨rfl, _⟩ | ⟨g, cap, cur, rfl, _⟩⟩ := h <;> rfl
theorem all4 {v : Value} (c : Int) (b : ByteArray) (h : v.oneCell' = true) : [Value.int .i64 c, v, Value.string b, Value.bool false].all Value.oneCell' = true := by
  simp only [List.all_cons, h, List.all_nil]
  rfl

theorem mem_compact {α : Type} [Inhabited α] [DecidableEq α] (zs : List α) (x : α) : x ∈ Lib.compact zs ↔ x ∈ zs := by
  have key : ∀ m, m ≤ zs.length → (x ∈ Lib.compactUpTo zs.toArray m ↔ ∃ j, j < m ∧ zs.toArray[j]! = x) := by
    intro m
    induction m with
    | zero => intro _; simp [Lib.compactUpTo]
    | succ m ih =>
      intro hm
      have ih := ih (by omega)
      rw [Lib.compactUpTo_succ, List.mem_append, ih]
      constructor
      · rintro (⟨j, hj, e⟩ | h)
        · exact ⟨j, by omega, e⟩
        · split at h
          · rw [List.mem_singleton] at h
            exact ⟨m, by omega, h.symm⟩
          · cases h
      · rintro ⟨j, hj, e⟩
        by_cases hjm : j < m
        · exact .inl ⟨j, hjm, e⟩
        · obtain rfl : j = m := by omega
          by_cases hk : Lib.keeps zs.toArray j = true
          · exact .inr (by rw [if_pos hk, List.mem_singleton]; exact e.symm)
          · have h2 := hk
            unfold Lib.keeps at h2
            simp only [decide_eq_true_eq, not_or] at h2
            refine .inl ⟨j - 1, by omega, ?_⟩
            rw [← e]
            exact (Classical.not_not.1 h2.2).symm
  unfold Lib.compact
  rw [key _ (Nat.le_refl _)]
  constructor
  · rintro ⟨j, hj, rfl⟩
    rw [getElem!_pos _ j (by simpa using hj)]
    simp
  · intro h
    obtain ⟨j, hj, rfl⟩ := List.mem_iff_getElem.1 h
    exact ⟨j, hj, by rw [getElem!_pos _ j (by simpa using hj)]; simp⟩
theorem grow_cells {v : Value} {n : Nat} {ss : List (List UInt8)} {Lv : Own} (hg : Grow 9 1 v (ss).length (((ss).map strOf).map Value.string) Lv) (hn : ss.length = n) (h0 : ss ≠ []) : ∃ g cap cur, v = .slice (some ⟨g, 0, none⟩) ss.length cap ∧ Lv = [(g, .cells cur 9)] ∧ ss.length ≤ cap ∧ cap ≤ maxLen ∧ cur.size = cap ∧ ss.length ≤ cur.size ∧ ∀ (j : Nat) (x : List UInt8), ss[j]? = some x → cur[j]? = some (Value.string ⟨x.toArray⟩) := by
  obtain ⟨_, _, ⟨_, h, _⟩ | ⟨g, cap, cur, rfl, rfl, h3, h4, h5, h6⟩⟩ := hg
  · exact absurd (List.eq_nil_of_length_eq_zero h) h0
  · rw [Nat.mul_one] at h5 h6
    refine ⟨g, cap, cur, rfl, rfl, h3, h4, h5, by omega, fun j x hj => ?_⟩
    have hlt : j < ss.length := (List.getElem?_eq_some_iff.1 hj).1
    have h7 := congrArg (fun l => l[j]?) h6
    simp only [List.getElem?_take, if_pos hlt, List.getElem?_map, hj, Option.map_some] at h7
    rw [Array.getElem?_toList] at h7
    exact h7
theorem grow_of {g cap : Nat} {cur : Array Value} {ss : List (List UInt8)} (h1 : ss.length ≤ cap) (h2 : cap ≤ maxLen) (h3 : cur.size = cap) (h4 : cur.toList.take ss.length = ss.map encStr) : Grow 9 1 (.slice (some ⟨g, 0, none⟩) ss.length cap) (ss).length (((ss).map strOf).map Value.string) [(g, .cells cur 9)] := by
  refine ⟨by simp, ?_, .inr ⟨g, cap, cur, rfl, rfl, h1, h2, by omega, ?_⟩⟩
  · intro u hu
    obtain ⟨x, _, rfl⟩ := List.mem_map.1 hu
    rfl
  · rw [Nat.mul_one, h4, List.map_map]
    rfl
theorem sort_spec {w0 w : World} {I : Imm} {L Lv : Own} {v : Value} {ss : List (List UInt8)} (hst : St w0 w I (Lv ++ L)) (hg : Grow 9 1 v (ss).length (((ss).map strOf).map Value.string) Lv) (hz : ss.length ≤ 1000000) :
    Calls Tryd.prog 43 #[v] w fun e w' => ∃ (ss' : List (List UInt8)) (Lv' : Own), e = .returned (.tuple #[]) ∧ St w0 w' I (Lv' ++ L) ∧ Grow 9 1 v (ss').length (((ss').map strOf).map Value.string) Lv' ∧ ss'.length = ss.length ∧ ∀ x, x ∈ ss' ↔ x ∈ ss := by
  by_cases h0 : ss = []
  · subst h0
    have hg2 := hg
    obtain ⟨_, _, ⟨rfl, _, rfl⟩ | ⟨g, cap, cur, rfl, rfl, _⟩⟩ := hg2
    · refine (Tryd.slices_Sort_string_none none 0 w).mono ?_
      rintro e w' ⟨rfl, rfl⟩
      exact ⟨[], [], rfl, hst, hg, rfl, fun _ => Iff.rfl⟩
    · refine (Tryd.slices_Sort_string_none _ cap w).mono ?_
      rintro e w' ⟨rfl, rfl⟩
      exact ⟨[], _, rfl, hst, hg, rfl, fun _ => Iff.rfl⟩
  · obtain ⟨g, cap, cur, rfl, rfl, h1, h2, h3, h4, h5⟩ := grow_cells hg rfl h0
    have hst1 : St w0 w I ((g, .cells cur 9) :: L) := hst
    refine (Tryd.slices_Sort_string g 0 cap ss w (holdsS (n := 0) (cap := 0) hst1 h4 h5) (hst1.lt_own (p := (g, .cells cur 9)) (by simp)) (by omega)).mono ?_
    rintro e w' ⟨rfl, n, os, rfl⟩
    refine ⟨ss.mergeSort fun x y => decide (x ≤ y), [(g, .cells (Sort.putCells encStr 0 (ss.mergeSort fun x y => decide (x ≤ y)).toArray cur) 9)], rfl, ((hst1.ahead n).putRow _).grownS os, ?_, List.length_mergeSort _, fun x => List.mem_mergeSort⟩
    have hl : (ss.mergeSort fun x y => decide (x ≤ y)).length = ss.length := List.length_mergeSort _
    have := grow_of (g := g) (cap := cap) (cur := Sort.putCells encStr 0 (ss.mergeSort fun x y => decide (x ≤ y)).toArray cur) (ss := ss.mergeSort fun x y => decide (x ≤ y)) (by omega) h2 (by rw [putCells_size]; exact h3) (putCells_get (by omega))
    rw [hl] at this ⊢
    exact this
theorem compact_spec {w0 w : World} {I : Imm} {L Lv : Own} {v : Value} {ss : List (List UInt8)} (hst : St w0 w I (Lv ++ L)) (hg : Grow 9 1 v (ss).length (((ss).map strOf).map Value.string) Lv) (hz : ss.length ≤ 1000000) :
    Calls Tryd.prog 44 #[v] w fun e w' => ∃ (ss' : List (List UInt8)) (v' : Value) (Lv' : Own), e = .returned v' ∧ St w0 w' I (Lv' ++ L) ∧ Grow 9 1 v' (ss').length (((ss').map strOf).map Value.string) Lv' ∧ ss'.length ≤ ss.length ∧ ∀ x, x ∈ ss' ↔ x ∈ ss := by
  by_cases h0 : ss = []
  · subst h0
    have hg2 := hg
    obtain ⟨_, _, ⟨rfl, _, rfl⟩ | ⟨g, cap, cur, rfl, rfl, _⟩⟩ := hg2
    · refine (Tryd.slices_Compact_string_empty none 0 w).mono ?_
      rintro e w' ⟨rfl, rfl⟩
      exact ⟨[], _, [], rfl, hst, hg, Nat.le_refl _, fun _ => Iff.rfl⟩
    · refine (Tryd.slices_Compact_string_empty _ cap w).mono ?_
      rintro e w' ⟨rfl, rfl⟩
      exact ⟨[], _, _, rfl, hst, hg, Nat.le_refl _, fun _ => Iff.rfl⟩
  · obtain ⟨g, cap, cur, rfl, rfl, h1, h2, h3, h4, h5⟩ := grow_cells hg rfl h0
    have hst1 : St w0 w I ((g, .cells cur 9) :: L) := hst
    refine (Tryd.slices_Compact_string g 0 cap ss w (holdsS (n := 0) (cap := 0) hst1 h4 h5) (by omega) h1).mono ?_
    rintro e w' ⟨rfl, q, rfl⟩
    have hcl : (Lib.compact ss).length ≤ ss.length := by
      unfold Lib.compact Lib.compactUpTo
      rw [List.length_map]
      have := List.length_filter_le (Lib.keeps ss.toArray) (List.range ss.length)
      rw [List.length_range] at this
      exact this
    refine ⟨Lib.compact ss, _, [(g, .cells (Sort.putCells encStr 0 (Lib.compact ss ++ List.replicate (ss.length - (Lib.compact ss).length) []).toArray cur) 9)], rfl, ((hst1.ahead q).putRow _), ?_, hcl, fun x => mem_compact ss x⟩
    refine grow_of (by omega) h2 (by rw [putCells_size]; exact h3) ?_
    have hall : (Lib.compact ss ++ List.replicate (ss.length - (Lib.compact ss).length) []).length = ss.length := by rw [List.length_append, List.length_replicate]; omega
    have h6 := putCells_get (ss := Lib.compact ss ++ List.replicate (ss.length - (Lib.compact ss).length) []) (cur := cur) (by omega)
    rw [hall] at h6
    have h7 := congrArg (List.take (Lib.compact ss).length) h6
    rw [List.take_take, Nat.min_eq_left hcl, List.map_append, List.take_left' (by rw [List.length_map])] at h7
    exact h7
/-- Headers of no great size. -/
def HB (hs : List HRow) : Prop := hs.length ≤ 1000000 ∧ ∀ r ∈ hs, r.1.size ≤ 4294967280 ∧ r.2.size ≤ 4294967280
set_option maxRecDepth 100000 in
set_option maxHeartbeats 1000000 in
theorem unsafe_spec {w0 w : World} {I : Imm} {L : Own} (hst : St w0 w I L) (hM : MaxK I) {vh : Value} {hs : List HRow} (hv : RdH I vh hs) (hok : HB hs) :
    Calls Tryd.prog 29 #[vh] w fun e w' => ∃ (I' : Imm) (v : Value) (ls : List (List UInt8)), Imm.le I I' ∧ e = .returned v ∧ RdS I' v (ls.map strOf) ∧ (∀ x, x ∈ ls ↔ x ∈ unsafeL hs) ∧ ls.length ≤ 1000000 ∧ St w0 w' I' L := by
  obtain ⟨hA, hcap, rfl⟩ : ∃ A c, vh = .slice A hs.length c := by obtain ⟨_, _, A, c, e, _⟩ := hv; exact ⟨A, c, e⟩
  refine enter Tryd.func29 rfl (N := 26) rfl rfl ?_
  simp only [List.zipIdx_cons, List.zipIdx_nil, List.map_cons, List.map_nil, Nat.zero_add, Nat.reduceAdd]
  have hle := Imm.le.refl I
  refine CW.seq ?_
  -- region 0
  refine CW.region ?_
  refine RW.op1 rfl (runs_assign rfl) ?_
  refine RW.done ?_
  refine AQ.next ?_
  refine CW.seq ?_
  -- region 1
  refine CW.region ?_
  refine RW.op1 rfl (runs_assign rfl) ?_
  refine RW.done ?_
  refine AQ.next ?_
  refine CW.seq ?_
  refine CW.seq ?_
  -- region 2
  refine CW.region ?_
  refine RW.op1 rfl (runs_move rfl) ?_
  refine RW.op1 rfl (RdL.len Tryd.underlying31 rfl hv) ?_
  refine RW.op1 rfl (runs_move rfl) ?_
  refine RW.done ?_
  refine AQ.next ?_
  refine CW.block ?_
  -- loop 1
  refine CW.loop (Nat × Imm × Value × Own) (fun x w => I.le x.2.1 ∧ MaxK x.2.1 ∧ RdH x.2.1 (.slice hA hs.length hcap) hs ∧ St w0 w x.2.1 (x.2.2.2 ++ L) ∧ Grow 9 1 x.2.2.1 (unsafeL (hs.take x.1)).length (((unsafeL (hs.take x.1)).map strOf).map Value.string) x.2.2.2 ∧ x.1 ≤ hs.length) (fun x => [(3, x.2.2.1), (6, .slice hA hs.length hcap), (7, .int .i64 (hs.length : Nat)), (8, .int .i64 (x.1 : Int))]) (fun x => hs.length - x.1) ⟨(0, _, _, []), ⟨hle, hM, hv, hst, Grow.nil _ _, Nat.zero_le _⟩, ⟨rfl, rfl, rfl, rfl, trivial⟩⟩ ?_
  clear hle hM hv
  rintro ⟨k, I2, v2, Lv2⟩ w ⟨hle, hM, hv, hstn, hg2, hk⟩
  dsimp only at hle hM hv hstn hg2 hk ⊢
  clear hst
  have hst := hstn
  clear hstn
  refine CW.seq ?_
  -- region 3
  refine CW.region ?_
  refine RW.op1 rfl (runs_lss rfl rfl) ?_
  refine RW.done ?_
  refine AQ.next ?_
  refine CW.seq ?_
  refine CW.cond rfl (fun hc9 => ?_) (fun hc9 => ?_)
  · have hcb9 := hc9
    try simp only [decide_eq_true_eq, decide_eq_false_iff_not] at hc9
    have hk1 : k < hs.length := by omega
    obtain ⟨⟨n, d⟩, hr⟩ : ∃ r, hs[k] = r := ⟨_, rfl⟩
    have hr2 : hs[k]? = some (n, d) := by rw [List.getElem?_eq_getElem hk1, hr]
    have hsn := hok.2 (n, d) (List.mem_of_getElem? hr2)
    dsimp only at hsn
    have htk := unsafe_take hr2
    have h9 := unsafe_len (hs.take k)
    rw [List.length_take] at h9
    have hhl := hok.1
    refine CW.skip ?_
    refine AQ.next ?_
    refine CW.seq ?_
    refine CW.block ?_
    refine CW.seq ?_
    -- region 4
    refine CW.region ?_
    refine RW.op1 rfl (RdL.indexAddr Tryd.underlying31 ti30 (by decide) rfl rfl hv (by omega)) ?_
    refine RW.op1 rfl (RdL.loadRow (row := hrow (n, d)) ag30 ti30 rfl hv hst rfl (hrow_at hr2)) ?_
    refine RW.opE rfl (runs_alloc ti30 hst) ?_
    rintro _ w ⟨b1, rfl, hstn⟩
    clear hst
    have hst := hstn
    clear hstn
    first
      | refine RW.opE0 (runs_storeW ti30 rfl rfl hst (k := 0) rfl rfl rfl (NoFz.zero _) rfl) ?_
      | refine RW.opE0 (runs_storeP ti30 rfl rfl hst (k := 0) rfl rfl rfl (NoFz.zero _) rfl) ?_
      | refine RW.opE0 (runs_storeW ti30 rfl rfl hst (k := 1) rfl rfl rfl (NoFz.zero _) rfl) ?_
      | refine RW.opE0 (runs_storeP ti30 rfl rfl hst (k := 1) rfl rfl rfl (NoFz.zero _) rfl) ?_
      | refine RW.opE0 (runs_storeW ti30 rfl rfl hst (k := 2) rfl rfl rfl (NoFz.zero _) rfl) ?_
      | refine RW.opE0 (runs_storeP ti30 rfl rfl hst (k := 2) rfl rfl rfl (NoFz.zero _) rfl) ?_
    rintro w hstn
    clear hst
    have hst := hstn
    clear hstn
    try simp only [List.set_cons_zero, List.set_cons_succ] at hst
    refine RW.done ?_
    refine AQ.next ?_
    refine CW.seq ?_
    -- region 5
    refine CW.region ?_
    first
      | refine RW.op1 rfl (runs_loadN (vs := [_, _]) ag30 ti30 rfl hst (k := 0) rfl rfl rfl) ?_
      | refine RW.op1 rfl (runs_loadN (vs := [_, _]) ag30 ti30 rfl hst (k := 1) rfl rfl rfl) ?_
      | refine RW.op1 rfl (runs_loadN (vs := [_, _]) ag30 ti30 rfl hst (k := 2) rfl rfl rfl) ?_
    refine RW.call rfl call42 rfl rfl (simple_spec hst hM n d hsn.1 hsn.2) ?_
    rintro e w ⟨I3, hI3, rfl, hstn⟩
    clear hst
    have hst := hstn
    clear hstn
    have hsr : simpleR (n, d) = simpleL n.toList d.toList := rfl
    obtain ⟨sm, hsm⟩ : ∃ b, simpleL n.toList d.toList = b := ⟨_, rfl⟩
    rw [hsm] at hsr ⊢
    rw [hsr] at htk
    replace hM := hM.mono hI3
    replace hv := hv.mono hI3
    replace hle := hle.trans hI3
    refine ⟨_, rfl, ?_⟩
    refine RW.op1 rfl (runs_not rfl) ?_
    refine RW.done ?_
    refine AQ.next ?_
    refine CW.cond rfl (fun hc14 => ?_) (fun hc14 => ?_)
    · have hcb14 := hc14
      try simp only [decide_eq_true_eq, decide_eq_false_iff_not] at hc14
      have h14 : sm = false := by simpa using hcb14
      rw [h14, if_neg (by decide)] at htk
      -- region 6
      refine CW.region ?_
      refine RW.op1 rfl (runs_move rfl) ?_
      first
        | refine RW.op1 rfl (runs_fieldAddr0 rfl Tryd.underlying30 rfl ti9 (by decide)) ?_
        | refine RW.op1 rfl (runs_fieldAddr rfl Tryd.underlying30 rfl ti9 (by decide)) ?_
      first
        | refine RW.op1 rfl (runs_load1 sc9 rfl (hst.cell_own (k := 0) rfl rfl)) ?_
        | refine RW.op1 rfl (runs_load1 sc9 rfl (hst.cell_own (k := 1) rfl rfl)) ?_
        | refine RW.op1 rfl (runs_load1 sc9 rfl (hst.cell_own (k := 2) rfl rfl)) ?_
      refine RW.call rfl call23 rfl rfl (lower_spec hst n (by omega)) ?_
      rintro e w ⟨I4, hI4, rfl, hstn⟩
      clear hst
      have hst := hstn
      clear hstn
      replace hM := hM.mono hI4
      replace hv := hv.mono hI4
      replace hle := hle.trans hI4
      refine ⟨_, rfl, ?_⟩
      refine RW.opE rfl (runs_lit1R (xs := [Value.string (strOf (lower n.toList))]) Tryd.underlying23 ti9 (by decide) rfl rfl rfl (by simp [Value.oneCell']) hst) ?_
      rintro u5 w ⟨I5, hI5, hstn, h5⟩
      clear hst
      have hst := hstn
      clear hstn
      replace hM := hM.mono hI5
      replace hv : RdH _ _ _ := RdL.mono hI5 hv
      replace hle := hle.trans hI5
      have hD : RdL _ 1 u5 1 [Value.string (strOf (lower n.toList))] := h5
      refine RW.opE rfl (runs_appendRA [_] Tryd.underlying23 ti9 rfl (by decide) rfl rfl hst hg2 hD (by omega) (by unfold maxLen; omega)) ?_
      rintro uN w ⟨LvN, hstn, hgN⟩
      clear hst
      have hst := hstn
      clear hstn
      refine RW.op1 rfl (runs_assign rfl) ?_
      refine RW.done ?_
      refine AQ.block_normal ?_
      refine AQ.next ?_
      -- region 7
      refine CW.region ?_
      refine RW.op1 rfl (runs_add rfl rfl (by omega)) ?_
      refine RW.op1 rfl (runs_move rfl) ?_
      refine RW.done ?_
      exact AQ.again (x := (k, I2, v2, Lv2)) (k + 1, _, uN, LvN) ⟨hle, hM, hv, hst.drop1, by
        dsimp only
        rw [htk, List.map_append, List.map_append, List.length_append]
        exact hgN, by dsimp only; omega⟩ ⟨rfl, rfl, rfl, rfl, trivial⟩ (by dsimp only; omega)
    · have hcb14 := hc14
      try simp only [decide_eq_true_eq, decide_eq_false_iff_not] at hc14
      have h14 : sm = true := by simpa using hcb14
      rw [h14, if_pos rfl, List.append_nil] at htk
      refine CW.skip ?_
      refine AQ.block_normal ?_
      refine AQ.next ?_
      -- region 7
      refine CW.region ?_
      refine RW.op1 rfl (runs_add rfl rfl (by omega)) ?_
      refine RW.op1 rfl (runs_move rfl) ?_
      refine RW.done ?_
      exact AQ.again (x := (k, I2, v2, Lv2)) (k + 1, _, v2, Lv2) ⟨hle, hM, hv, hst.drop1, by
        dsimp only
        rw [htk]
        exact hg2, by dsimp only; omega⟩ ⟨rfl, rfl, rfl, rfl, trivial⟩ (by dsimp only; omega)
  · have hcb9 := hc9
    try simp only [decide_eq_true_eq, decide_eq_false_iff_not] at hc9
    skip
    refine CW.exit ?_
    refine AQ.past_exit ?_
    refine AQ.past_exit ?_
    refine AQ.block_hit ?_
    refine AQ.next ?_
    refine CW.seq ?_
    -- region 8
    refine CW.region ?_
    have htl : hs.take k = hs := List.take_of_length_le (by omega)
    rw [htl] at hg2
    have hul := unsafe_len hs
    have hhl := hok.1
    generalize hU : unsafeL hs = U at hg2 hul
    refine RW.op1 rfl (runs_move rfl) ?_
    refine RW.call rfl call43 rfl rfl (sort_spec hst hg2 (by omega)) ?_
    rintro e w ⟨ss, Lv3, rfl, hstn, hg3, hl3, hm3⟩
    clear hst
    have hst := hstn
    clear hstn
    refine ⟨_, rfl, ?_⟩
    refine RW.done ?_
    refine AQ.next ?_
    refine CW.seq ?_
    -- region 9
    refine CW.region ?_
    refine RW.op1 rfl (runs_move rfl) ?_
    refine RW.call rfl call44 rfl rfl (compact_spec hst hg3 (by omega)) ?_
    rintro e w ⟨tt, v4, Lv4, rfl, hstn, hg4, hl4, hm4⟩
    clear hst
    have hst := hstn
    clear hstn
    refine ⟨_, rfl, ?_⟩
    refine RW.op1 rfl (runs_assign rfl) ?_
    refine RW.done ?_
    refine AQ.next ?_
    refine CW.ret ?_
    refine AQ.ret1 rfl rfl ?_
    obtain ⟨I5, h1, h2, h3⟩ := hg4.freeze hst
    refine ⟨I5, v4, tt, hle.trans h1, rfl, ?_, fun x => (hm4 x).trans (hm3 x), by omega, h2⟩
    unfold RdS
    rw [List.length_map]
    exact h3
end Go.Proofs.YtfdgnjbbchkgpaaDoorX
