/- Parts of a list, words in it: what these come to. -/
import Derived.Test.YtfdgnjbbchkgpaaDoorT
import Derived.Test.YtfdgnjbbchkgpaaDoorC1
import Derived.Test.YtfdgnjbbchkgpaaDoorXE
import Derived.Test.YtfdgnjbbchkgpaaDoorXV
namespace Go.Proofs.YtfdgnjbbchkgpaaDoorX
set_option linter.unusedVariables false
set_option linter.unusedSimpArgs false
open Go Go.RowKit Go.Proofs

theorem split_spec {w0 w : World} {I : Imm} {L : Own} (hst : St w0 w I L) (hM : MaxK I) (s : ByteArray) (hs : s.size < 4294967281) :
    Calls Tryd.prog 22 #[.string s, .string ⟨#[44]⟩] w fun e w' => ∃ I' v, Imm.le I I' ∧ e = .returned v ∧ RdS I' v ((splitL s.toList).map strOf) ∧ St w0 w' I' L := by
  obtain ⟨m, hm⟩ := hM
  refine (Tryd.strings_Split s ⟨#[44]⟩ m w hs (hst.cell_imm hm) (by decide)).mono ?_
  rintro e w' ⟨rfl, rfl⟩
  have hc : Lib.countB s ⟨#[44]⟩ = s.toList.count 44 := by rw [ByteArray.toList_eq]; exact Lib.count_one 44 _
  have hl : Lib.splitB ⟨#[44]⟩ 0 (Lib.countB s ⟨#[44]⟩) s = (splitL s.toList).map strOf := by
    have h1 := Lib.splitB_data ⟨#[44]⟩ 0 (Lib.countB s ⟨#[44]⟩) s
    have h2 := splitK_law _ s.toList (Nat.le_refl _)
    rw [← h2, ← hc]
    have h3 := congrArg (List.map strOf) h1
    rw [List.map_map] at h3
    have h4 : (strOf ∘ fun b : ByteArray => b.data.toList) = id := by
      funext b
      show strOf b.data.toList = b
      rw [← ByteArray.toList_eq, strOfE]
    rw [h4, List.map_id] at h3
    rw [h3, ByteArray.toList_eq]
  have hn : Lib.countB s ⟨#[44]⟩ + 1 = ((splitL s.toList).map strOf).length := by
    have := Lib.splitB_all ⟨#[44]⟩ (by decide) 0 (Lib.countB s ⟨#[44]⟩) s rfl
    rw [hl] at this
    exact this.symm
  rw [hl, hn]
  obtain ⟨h1, h2⟩ := (hst.heap_new (.cells (((splitL s.toList).map strOf).map Value.string).toArray 9)).freeze
  refine ⟨_, _, h2, rfl, ?_, h1⟩
  refine ⟨by simp, ?_, _, _, rfl, ?_, ?_⟩
  · intro u hu
    obtain ⟨x, _, rfl⟩ := List.mem_map.1 hu
    rfl
  · exact Nat.le_refl _
  · intro j u hj
    refine ⟨_, rfl, ?_⟩
    rw [add_lit]
    unfold Imm.cell?
    simp only [Imm.add_at, Option.isSome_none, Bool.false_eq_true, if_false, Nat.zero_add]
    simpa using hj
theorem RdL.addr {I : Imm} {size n : Nat} {v : Value} {xs : List Value} (h : RdL I size v n xs) (h0 : xs ≠ []) : ∃ b off cap, v = .slice (some ⟨b, off, none⟩) n cap ∧ ∀ j u, xs[j]? = some u → I.cell? ⟨b, off + j, none⟩ = some u := by
  obtain ⟨_, _, A, cap, rfl, _, h4⟩ := h
  obtain ⟨x, r, rfl⟩ := List.exists_cons_of_ne_nil h0
  obtain ⟨a, rfl, h5⟩ := h4 0 x rfl
  obtain ⟨b, off, p⟩ := a
  cases p with
  | some q =>
    exfalso
    unfold Imm.cell? Addr.add at h5
    simp at h5
    split at h5 <;> cases h5
  | none =>
    refine ⟨b, off, cap, rfl, fun j u hj => ?_⟩
    obtain ⟨a, e, h6⟩ := h4 j u hj
    obtain rfl := Option.some.inj e
    rwa [add_lit] at h6
theorem contains_spec {w0 w : World} {I : Imm} {L : Own} (hst : St w0 w I L) {v : Value} {ls : List (List UInt8)} (hv : RdS I v (ls.map strOf)) (hz : ls.length ≤ 9223372036854775807) (x : ByteArray) :
    Calls Tryd.prog 40 #[v, .string x] w fun e w' => e = .returned (.bool (ls.contains x.toList)) ∧ St w0 w' I L := by
  by_cases h0 : ls = []
  · subst h0
    obtain ⟨_, _, A, cap, rfl, _⟩ := hv
    refine (Tryd.slices_Contains_string_empty A cap x w).mono ?_
    rintro e w' ⟨rfl, rfl⟩
    exact ⟨rfl, hst⟩
  · obtain ⟨b, off, cap, rfl, hc⟩ := RdL.addr hv (by simpa using h0)
    refine (Tryd.slices_Contains_string b off (ls.map strOf).length cap (ls.map strOf) x w (Nat.le_refl _) (by rw [List.length_map]; exact hz) ?_).mono ?_
    · intro j hj
      refine hst.cell_imm (hc j _ ?_)
      rw [List.getElem?_map, List.getElem?_eq_getElem hj, List.getD_eq_getElem?_getD, List.getElem?_eq_getElem hj]
      rfl
    · rintro e w' ⟨rfl, rfl⟩
      refine ⟨?_, hst⟩
      rw [List.take_of_length_le (Nat.le_refl _)]
      congr 2
      rw [Bool.eq_iff_iff, Lib.containsS_iff, List.contains_iff_mem]
      constructor
      · intro h
        obtain ⟨y, hy, rfl⟩ := List.mem_map.1 h
        rw [strOf_toList]
        exact hy
      · intro h
        refine List.mem_map.2 ⟨_, h, ?_⟩
        exact strOfE x
theorem keep_take {P : List (List UInt8)} {k : Nat} {p : List UInt8} (hk : P[k]? = some p) : (P.take (k + 1)).flatMap keepL = (P.take k).flatMap keepL ++ keepL p := by
  rw [List.take_add_one, hk, List.flatMap_append]
  simp
theorem keep_len : ∀ (P : List (List UInt8)), (P.flatMap keepL).length ≤ P.length
  | [] => Nat.le_refl _
  | p :: r => by
    have ih := keep_len r
    rw [List.flatMap_cons, List.length_append, List.length_cons]
    have : (keepL p).length ≤ 1 := by unfold keepL; split <;> simp
    omega
theorem parts_len (l : List UInt8) : (partsL l).length ≤ l.length + 1 := Nat.le_trans (keep_len _) (splitL_len l).1
set_option maxRecDepth 100000 in
set_option maxHeartbeats 1000000 in
theorem list_spec {w0 w : World} {I : Imm} {L : Own} (hst : St w0 w I L) (hM : MaxK I) (s : ByteArray) (hs : s.size < 4294967281) :
    Calls Tryd.prog 10 #[.string s] w fun e w' => ∃ I' v, Imm.le I I' ∧ e = .returned v ∧ RdS I' v ((partsL s.toList).map strOf) ∧ St w0 w' I' L := by
  have hz := size_toList s
  obtain ⟨hPl, hPp⟩ := splitL_len s.toList
  obtain ⟨P, hP⟩ : ∃ P, splitL s.toList = P := ⟨_, rfl⟩
  rw [hP] at hPl hPp
  have hparts : partsL s.toList = P.flatMap keepL := by unfold partsL; rw [hP]
  refine enter Tryd.func10 rfl (N := 25) rfl rfl ?_
  simp only [List.zipIdx_cons, List.zipIdx_nil, List.map_cons, List.map_nil, Nat.zero_add, Nat.reduceAdd]
  have hle := Imm.le.refl I
  refine CW.seq ?_
  -- region 0
  refine CW.region ?_
  refine RW.op1 rfl (runs_assign rfl) ?_
  refine RW.done ?_
  refine AQ.next ?_
  refine CW.seq ?_
  -- region 1
  refine CW.region ?_
  refine RW.op1 rfl (runs_assign rfl) ?_
  refine RW.done ?_
  refine AQ.next ?_
  refine CW.seq ?_
  refine CW.seq ?_
  -- region 2
  refine CW.region ?_
  refine RW.op1 rfl (runs_move rfl) ?_
  refine RW.call rfl call22 rfl rfl (split_spec hst hM s hs) ?_
  rintro e w ⟨I1, v, hI1, rfl, hv, hstn⟩
  clear hst
  have hst := hstn
  clear hstn
  rw [hP] at *
  replace hM := hM.mono hI1
  replace hle := hle.trans hI1
  refine ⟨_, rfl, ?_⟩
  refine RW.op1 rfl (RdL.len Tryd.underlying23 rfl hv) ?_
  rw [List.length_map]
  refine RW.op1 rfl (runs_move rfl) ?_
  refine RW.done ?_
  refine AQ.next ?_
  refine CW.block ?_
  -- loop 1
  refine CW.loop (Nat × Imm × Value × Own) (fun x w => I.le x.2.1 ∧ RdS x.2.1 v (P.map strOf) ∧ St w0 w x.2.1 (x.2.2.2 ++ L) ∧ Grow 9 1 x.2.2.1 ((P.take x.1).flatMap keepL).length ((((P.take x.1).flatMap keepL).map strOf).map Value.string) x.2.2.2 ∧ x.1 ≤ P.length) (fun x => [(3, x.2.2.1), (8, v), (9, .int .i64 (P.length : Nat)), (10, .int .i64 (x.1 : Int))]) (fun x => P.length - x.1) ⟨(0, _, _, []), ⟨hle, hv, hst, Grow.nil _ _, Nat.zero_le _⟩, ⟨rfl, rfl, rfl, rfl, trivial⟩⟩ ?_
  clear hle hv
  rintro ⟨k, I2, v2, Lv2⟩ w ⟨hle, hv, hstn, hg2, hk⟩
  dsimp only at hle hv hstn hg2 hk ⊢
  clear hst
  have hst := hstn
  clear hstn
  refine CW.seq ?_
  -- region 3
  refine CW.region ?_
  refine RW.op1 rfl (runs_lss rfl rfl) ?_
  refine RW.done ?_
  refine AQ.next ?_
  refine CW.seq ?_
  refine CW.cond rfl (fun hc11 => ?_) (fun hc11 => ?_)
  · have hcb11 := hc11
    try simp only [decide_eq_true_eq, decide_eq_false_iff_not] at hc11
    have hk1 : k < P.length := by omega
    obtain ⟨p, hr⟩ : ∃ r, P[k] = r := ⟨_, rfl⟩
    have hr2 : P[k]? = some p := by rw [List.getElem?_eq_getElem hk1, hr]
    have hpz := hPp p (List.mem_of_getElem? hr2)
    have htk := keep_take hr2
    have h9 := keep_len (P.take k)
    rw [List.length_take] at h9
    have hst5 : sat (P.map strOf) (k : Int) = strOf p := by rw [sat_get (by rw [List.length_map]; exact hk1), List.getElem_map, hr]
    have htl := trimB_len p
    refine CW.skip ?_
    refine AQ.next ?_
    refine CW.seq ?_
    refine CW.block ?_
    refine CW.seq ?_
    -- region 4
    refine CW.region ?_
    refine RW.op1 rfl (RdL.indexAddr Tryd.underlying23 ti9 (by decide) rfl rfl hv (by rw [List.length_map]; omega)) ?_
    refine RW.op1 rfl (runs_load1 sc9 rfl (hst.cell_imm (RdS.at hv (by omega) (by rw [List.length_map]; omega)))) ?_
    rw [hst5]
    refine RW.op1 rfl (runs_assign rfl) ?_
    refine RW.done ?_
    refine AQ.next ?_
    refine CW.seq ?_
    -- region 5
    refine CW.region ?_
    refine RW.op1 rfl (runs_move rfl) ?_
    refine RW.call rfl call24 rfl rfl (trim_spec hst (strOf p) (by rw [strOfZ]; omega)) ?_
    rintro e w ⟨rfl, hstn⟩
    clear hst
    have hst := hstn
    clear hstn
    rw [strOf_toList]
    refine ⟨_, rfl, ?_⟩
    refine RW.call rfl call23 rfl rfl (lower_spec hst (strOf (trimB p)) (by rw [strOfZ]; omega)) ?_
    rintro e w ⟨I3, hI3, rfl, hstn⟩
    clear hst
    have hst := hstn
    clear hstn
    rw [strOf_toList]
    obtain ⟨q, hq⟩ : ∃ q, normL p = q := ⟨_, rfl⟩
    have hq2 : lower (trimB p) = q := hq
    rw [hq2]
    have hkq : keepL p = if q = [] then [] else [q] := by unfold keepL; rw [hq]
    replace hv := hv.mono hI3
    replace hle := hle.trans hI3
    refine ⟨_, rfl, ?_⟩
    refine RW.op1 rfl (runs_assign rfl) ?_
    refine RW.done ?_
    refine AQ.next ?_
    refine CW.seq ?_
    -- region 6
    refine CW.region ?_
    refine RW.op1 rfl (runs_move rfl) ?_
    refine RW.op1 rfl (runs_neS rfl rfl) ?_
    refine RW.done ?_
    refine AQ.next ?_
    refine CW.cond rfl (fun hc18 => ?_) (fun hc18 => ?_)
    · have hcb18 := hc18
      try simp only [decide_eq_true_eq, decide_eq_false_iff_not] at hc18
      have h18 : q ≠ [] := by rw [emptyL, strOf_toList] at hcb18; simpa using hcb18
      -- region 7
      refine CW.region ?_
      refine RW.op1 rfl (runs_move rfl) ?_
      refine RW.op1 rfl (runs_move rfl) ?_
      refine RW.opE rfl (runs_lit1R (xs := [Value.string (strOf q)]) Tryd.underlying23 ti9 (by decide) rfl rfl rfl (by simp [Value.oneCell']) hst) ?_
      rintro u4 w ⟨I4, hI4, hstn, h4⟩
      clear hst
      have hst := hstn
      clear hstn
      replace hv : RdS _ v _ := RdS.mono hv hI4
      replace hle := hle.trans hI4
      have hD : RdL _ 1 u4 1 [Value.string (strOf q)] := h4
      refine RW.opE rfl (runs_appendR Tryd.underlying23 ti9 rfl (by decide) rfl rfl hst hg2 hD (by omega) (by unfold maxLen; omega)) ?_
      rintro uN w ⟨LvN, hstn, hgN⟩
      clear hst
      have hst := hstn
      clear hstn
      refine RW.op1 rfl (runs_assign rfl) ?_
      refine RW.done ?_
      refine AQ.block_normal ?_
      refine AQ.next ?_
      -- region 8
      refine CW.region ?_
      refine RW.op1 rfl (runs_add rfl rfl (by omega)) ?_
      refine RW.op1 rfl (runs_move rfl) ?_
      refine RW.done ?_
      exact AQ.again (x := (k, I2, v2, Lv2)) (k + 1, _, uN, LvN) ⟨hle, hv, hst, by
        dsimp only
        rw [htk, hkq, if_neg h18, List.map_append, List.map_append, List.length_append]
        exact hgN, by dsimp only; omega⟩ ⟨rfl, rfl, rfl, rfl, trivial⟩ (by dsimp only; omega)
    · have hcb18 := hc18
      try simp only [decide_eq_true_eq, decide_eq_false_iff_not] at hc18
      have h18 : q = [] := by rw [emptyL, strOf_toList] at hcb18; simpa using hcb18
      refine CW.skip ?_
      refine AQ.block_normal ?_
      refine AQ.next ?_
      -- region 8
      refine CW.region ?_
      refine RW.op1 rfl (runs_add rfl rfl (by omega)) ?_
      refine RW.op1 rfl (runs_move rfl) ?_
      refine RW.done ?_
      exact AQ.again (x := (k, I2, v2, Lv2)) (k + 1, _, v2, Lv2) ⟨hle, hv, hst, by
        dsimp only
        rw [htk, hkq, if_pos h18, List.append_nil]
        exact hg2, by dsimp only; omega⟩ ⟨rfl, rfl, rfl, rfl, trivial⟩ (by dsimp only; omega)
  · have hcb11 := hc11
    try simp only [decide_eq_true_eq, decide_eq_false_iff_not] at hc11
    skip
    refine CW.exit ?_
    refine AQ.past_exit ?_
    refine AQ.past_exit ?_
    refine AQ.block_hit ?_
    refine AQ.next ?_
    refine CW.seq ?_
    -- region 9
    refine CW.region ?_
    refine RW.op1 rfl (runs_move rfl) ?_
    refine RW.op1 rfl (runs_assign rfl) ?_
    refine RW.done ?_
    refine AQ.next ?_
    refine CW.ret ?_
    refine AQ.ret1 rfl rfl ?_
    obtain ⟨I3, h1, h2, h3⟩ := hg2.freeze hst
    rw [List.take_of_length_le (by omega)] at h3
    refine ⟨I3, _, hle.trans h1, rfl, ?_, h2⟩
    rw [hparts]
    unfold RdS
    rw [List.length_map]
    exact h3
set_option maxRecDepth 100000 in
set_option maxHeartbeats 1000000 in
theorem parts_spec {w0 w : World} {I : Imm} {L : Own} (hst : St w0 w I L) (s : ByteArray) (hs : s.size < 4294967281) :
    Calls Tryd.prog 38 #[.string s] w fun e w' => ∃ I' v, Imm.le I I' ∧ e = .returned v ∧ RdS I' v ((partsL s.toList).map strOf) ∧ St w0 w' I' L := by
  have hz := size_toList s
  refine enter Tryd.func38 rfl (N := 25) rfl rfl ?_
  simp only [List.zipIdx_cons, List.zipIdx_nil, List.map_cons, List.map_nil, Nat.zero_add, Nat.reduceAdd]
  have hle := Imm.le.refl I
  refine CW.seq ?_
  -- region 0
  refine CW.region ?_
  refine RW.op1 rfl (runs_assign rfl) ?_
  refine RW.done ?_
  refine AQ.next ?_
  refine CW.seq ?_
  -- region 1
  refine CW.region ?_
  refine RW.op1 rfl (runs_assign rfl) ?_
  refine RW.done ?_
  refine AQ.next ?_
  refine CW.block ?_
  -- loop 1
  refine CW.loop (List UInt8 × Imm × Value × Own × List (List UInt8)) (fun x w => I.le x.2.1 ∧ St w0 w x.2.1 (x.2.2.2.1 ++ L) ∧ Grow 9 1 x.2.2.1 (x.2.2.2.2).length (((x.2.2.2.2).map strOf).map Value.string) x.2.2.2.1 ∧ x.2.2.2.2.length + x.1.length ≤ s.size ∧ partsL s.toList = x.2.2.2.2 ++ partsL x.1) (fun x => [(0, .string (strOf x.1)), (3, x.2.2.1)]) (fun x => x.1.length) ⟨(s.toList, _, _, [], []), ⟨hle, hst, Grow.nil _ _, by simp; omega, rfl⟩, ⟨by rw [strOfE]; rfl, rfl, trivial⟩⟩ ?_
  clear hle
  rintro ⟨cur, I2, v2, Lv2, acc⟩ w ⟨hle, hstn, hg2, hal, hpt⟩
  dsimp only at hle hstn hg2 hal hpt ⊢
  clear hst
  have hst := hstn
  clear hstn
  obtain ⟨p, t, hun, hct⟩ : ∃ p t, untilL [44] cur = (p, t) ∧ ((t = [] ∧ p = cur ∧ partsL cur = keepL p) ∨ ∃ b, t = 44 :: b ∧ cur = p ++ 44 :: b ∧ partsL cur = keepL p ++ partsL b) := by
    by_cases h : (44 : UInt8) ∈ cur
    · obtain ⟨a, b, rfl, ha⟩ := List.eq_append_cons_of_mem h
      exact ⟨a, 44 :: b, until1_at ha, .inr ⟨b, rfl, rfl, partsL_at b ha⟩⟩
    · exact ⟨cur, [], until1_no h, .inl ⟨rfl, rfl, partsL_no h⟩⟩
  have hpl : p.length ≤ cur.length := by
    have := untilL_fst_len 44 cur
    rw [hun] at this
    exact this
  refine CW.block ?_
  refine CW.seq ?_
  -- region 2
  refine CW.region ?_
  refine RW.op1 rfl (runs_move rfl) ?_
  refine RW.call rfl call46 rfl rfl (until_spec hst (strOf cur) ⟨#[44]⟩ (by rw [strOfZ]; omega) (by decide)) ?_
  rintro e w ⟨rfl, hstn⟩
  clear hst
  have hst := hstn
  clear hstn
  rw [litL, strOf_toList, hun]
  dsimp only
  refine ⟨_, rfl, ?_⟩
  refine RW.op1 rfl (runs_move rfl) ?_
  refine RW.op1 rfl (runs_extract rfl rfl) ?_
  refine RW.op1 rfl (runs_extract rfl rfl) ?_
  refine RW.op1 rfl (runs_assign rfl) ?_
  refine RW.op1 rfl (runs_assign rfl) ?_
  refine RW.done ?_
  refine AQ.next ?_
  refine CW.seq ?_
  refine CW.seq ?_
  -- region 3
  refine CW.region ?_
  refine RW.op1 rfl (runs_move rfl) ?_
  refine RW.call rfl call47 rfl rfl (rtrim_spec hst (strOf p) (by rw [strOfZ]; omega)) ?_
  rintro e w ⟨rfl, hstn⟩
  clear hst
  have hst := hstn
  clear hstn
  rw [strOf_toList]
  have htl := trimB_len p
  refine ⟨_, rfl, ?_⟩
  refine RW.call rfl call37 rfl rfl (refLower_spec hst (strOf (trimB p)) (by rw [strOfZ]; omega)) ?_
  rintro e w ⟨I3, hI3, rfl, hstn⟩
  clear hst
  have hst := hstn
  clear hstn
  rw [strOf_toList]
  obtain ⟨q, hq⟩ : ∃ q, normL p = q := ⟨_, rfl⟩
  have hq2 : lower (trimB p) = q := hq
  rw [hq2]
  have hkq : keepL p = if q = [] then [] else [q] := by unfold keepL; rw [hq]
  replace hle := hle.trans hI3
  refine ⟨_, rfl, ?_⟩
  refine RW.op1 rfl (runs_assign rfl) ?_
  refine RW.done ?_
  refine AQ.next ?_
  refine CW.seq ?_
  -- region 4
  refine CW.region ?_
  refine RW.op1 rfl (runs_move rfl) ?_
  refine RW.op1 rfl (runs_neS rfl rfl) ?_
  refine RW.done ?_
  refine AQ.next ?_
  refine CW.cut (Imm × Value × Own) (fun y w => I.le y.1 ∧ St w0 w y.1 (y.2.2 ++ L) ∧ Grow 9 1 y.2.1 (acc ++ keepL p).length (((acc ++ keepL p).map strOf).map Value.string) y.2.2 ∧ (acc ++ keepL p).length ≤ acc.length + 1) (fun y => [(5, .string (strOf t)), (3, y.2.1)]) ?_ ?_
  · refine CW.cond rfl (fun hc15 => ?_) (fun hc15 => ?_)
    · have hcb15 := hc15
      try simp only [decide_eq_true_eq, decide_eq_false_iff_not] at hc15
      -- region 5
      refine CW.region ?_
      refine RW.op1 rfl (runs_move rfl) ?_
      refine RW.op1 rfl (runs_move rfl) ?_
      refine RW.opE rfl (runs_lit1R (xs := [Value.string (strOf q)]) Tryd.underlying23 ti9 (by decide) rfl rfl rfl (by simp [Value.oneCell']) hst) ?_
      rintro u4 w ⟨I4, hI4, hstn, h4⟩
      clear hst
      have hst := hstn
      clear hstn
      replace hle := hle.trans hI4
      have hD : RdL _ 1 u4 1 [Value.string (strOf q)] := h4
      refine RW.opE rfl (runs_appendR Tryd.underlying23 ti9 rfl (by decide) rfl rfl hst hg2 hD (by omega) (by unfold maxLen; omega)) ?_
      rintro uN w ⟨LvN, hstn, hgN⟩
      clear hst
      have hst := hstn
      clear hstn
      have hgM : Grow 9 1 uN (acc ++ keepL p).length (((acc ++ keepL p).map strOf).map Value.string) LvN := by
        rw [hkq, if_neg (by rw [emptyL, strOf_toList] at hcb15; simpa using hcb15), List.map_append, List.map_append, List.length_append]
        exact hgN
      refine RW.op1 rfl (runs_assign rfl) ?_
      refine RW.done ?_
      first
        | exact AQ.meet (_, uN, LvN) ⟨hle, hst, hgM, by rw [hkq, List.length_append]; split <;> simp⟩ ⟨rfl, rfl, trivial⟩
        | exact AQ.meet (_, v2, Lv2) ⟨hle, hst, by dsimp only; rw [hkq, if_pos (by rw [emptyL, strOf_toList] at hcb15; simpa using hcb15), List.append_nil]; exact hg2, by rw [hkq, List.length_append]; split <;> simp⟩ ⟨rfl, rfl, trivial⟩
    · have hcb15 := hc15
      try simp only [decide_eq_true_eq, decide_eq_false_iff_not] at hc15
      refine CW.skip ?_
      first
        | exact AQ.meet (_, uN, LvN) ⟨hle, hst, hgM, by rw [hkq, List.length_append]; split <;> simp⟩ ⟨rfl, rfl, trivial⟩
        | exact AQ.meet (_, v2, Lv2) ⟨hle, hst, by dsimp only; rw [hkq, if_pos (by rw [emptyL, strOf_toList] at hcb15; simpa using hcb15), List.append_nil]; exact hg2, by rw [hkq, List.length_append]; split <;> simp⟩ ⟨rfl, rfl, trivial⟩
  · clear hle hg2
    rintro ⟨I3, v3, Lv3⟩ w ⟨hle, hstn, hg3, hal3⟩
    dsimp only at hle hstn hg3 hal3 ⊢
    clear hst
    have hst := hstn
    clear hstn
    refine AQ.next ?_
    refine CW.seq ?_
    refine CW.seq ?_
    -- region 6
    refine CW.region ?_
    refine RW.op1 rfl (runs_move rfl) ?_
    refine RW.op1 rfl (runs_eqS rfl rfl) ?_
    refine RW.done ?_
    refine AQ.next ?_
    refine CW.cond rfl (fun hc21 => ?_) (fun hc21 => ?_)
    · have hcb21 := hc21
      try simp only [decide_eq_true_eq, decide_eq_false_iff_not] at hc21
      have ht : t = [] := by rw [emptyL, strOf_toList] at hcb21; simpa using hcb21
      refine CW.seq ?_
      -- region 7
      refine CW.region ?_
      refine RW.op1 rfl (runs_move rfl) ?_
      refine RW.op1 rfl (runs_assign rfl) ?_
      refine RW.done ?_
      refine AQ.next ?_
      refine CW.ret ?_
      refine AQ.past_ret ?_
      refine AQ.block_ret ?_
      refine AQ.past_ret ?_
      refine AQ.block_ret ?_
      refine AQ.ret1 rfl rfl ?_
      obtain ⟨I4, h1, h2, h3⟩ := hg3.freeze hst
      have hfin : partsL s.toList = acc ++ keepL p := by
        rcases hct with ⟨_, _, h⟩ | ⟨b, h, _⟩
        · rw [hpt, h]
        · rw [ht] at h; cases h
      refine ⟨I4, _, hle.trans h1, rfl, ?_, h2⟩
      rw [hfin]
      unfold RdS
      rw [List.length_map]
      exact h3
    · have hcb21 := hc21
      try simp only [decide_eq_true_eq, decide_eq_false_iff_not] at hc21
      have ht : t ≠ [] := by rw [emptyL, strOf_toList] at hcb21; simpa using hcb21
      obtain ⟨b, rfl, hcb, hpb⟩ : ∃ b, t = 44 :: b ∧ cur = p ++ 44 :: b ∧ partsL cur = keepL p ++ partsL b := by
        rcases hct with h | h
        · exact absurd h.1 ht
        · exact h
      have hcl := congrArg List.length hcb
      rw [List.length_append, List.length_cons] at hcl
      refine CW.skip ?_
      refine AQ.next ?_
      -- region 8
      refine CW.region ?_
      refine RW.op1 rfl (runs_move rfl) ?_
      refine RW.op1 rfl (runs_sliceS_l Tryd.underlying9 rfl rfl (by rw [strOfZ, List.length_cons]; omega)) ?_
      rw [show (strOf (44 :: b)).extract ((1 : Int)).toNat (strOf (44 :: b)).size = strOf b from by rw [extractE, strOf_toList, show ((1 : Int)).toNat = 1 from rfl, List.drop_succ_cons, List.drop_zero, List.take_of_length_le (by rw [strOfZ, List.length_cons]; omega)]]
      refine RW.op1 rfl (runs_assign rfl) ?_
      refine RW.done ?_
      refine AQ.block_normal ?_
      exact AQ.again (x := (cur, I2, v2, Lv2, acc)) (b, _, v3, Lv3, acc ++ keepL p) ⟨hle, hst, hg3, by dsimp only; omega, by dsimp only; rw [hpt, hpb, List.append_assoc]⟩ ⟨rfl, rfl, trivial⟩ (by dsimp only; omega)
set_option maxRecDepth 100000 in
set_option maxHeartbeats 1000000 in
theorem refList_spec {w0 w : World} {I : Imm} {L : Own} (hst : St w0 w I L) (s : ByteArray) (hs : s.size < 4294967281) :
    Calls Tryd.prog 21 #[.string s] w fun e w' => ∃ I' v, Imm.le I I' ∧ e = .returned v ∧ RdS I' v ((partsL s.toList).map strOf) ∧ St w0 w' I' L := by
  refine enter Tryd.func21 rfl (N := 5) rfl rfl ?_
  simp only [List.zipIdx_cons, List.zipIdx_nil, List.map_cons, List.map_nil, Nat.zero_add, Nat.reduceAdd]
  have hle := Imm.le.refl I
  refine CW.seq ?_
  -- region 0
  refine CW.region ?_
  refine RW.op1 rfl (runs_assign rfl) ?_
  refine RW.done ?_
  refine AQ.next ?_
  refine CW.seq ?_
  -- region 1
  refine CW.region ?_
  refine RW.op1 rfl (runs_move rfl) ?_
  refine RW.call rfl call38 rfl rfl (parts_spec hst s hs) ?_
  rintro e w ⟨I1, v, hI1, rfl, hv, hstn⟩
  clear hst
  have hst := hstn
  clear hstn
  replace hle := hle.trans hI1
  refine ⟨_, rfl, ?_⟩
  refine RW.op1 rfl (runs_assign rfl) ?_
  refine RW.done ?_
  refine AQ.next ?_
  refine CW.ret ?_
  refine AQ.ret1 rfl rfl ?_
  exact ⟨_, v, hle, rfl, hv, hst⟩
set_option maxRecDepth 100000 in
set_option maxHeartbeats 1000000 in
theorem sameS_spec {w0 w : World} {I : Imm} {L : Own} (hst : St w0 w I L) {va vb : Value} {xs : List ByteArray} (ha : RdS I va xs) (hb : RdS I vb xs) (hlen : xs.length ≤ 9223372036854775806) :
    Calls Tryd.prog 9 #[va, vb] w fun e w' => e = .returned (.bool true) ∧ St w0 w' I L := by
  refine enter Tryd.func9 rfl (N := 26) rfl rfl ?_
  simp only [List.zipIdx_cons, List.zipIdx_nil, List.map_cons, List.map_nil, Nat.zero_add, Nat.reduceAdd]
  have hle := Imm.le.refl I
  refine CW.seq ?_
  -- region 0
  refine CW.region ?_
  refine RW.op1 rfl (runs_assign rfl) ?_
  refine RW.done ?_
  refine AQ.next ?_
  refine CW.seq ?_
  refine CW.seq ?_
  -- region 1
  refine CW.region ?_
  refine RW.op1 rfl (runs_move rfl) ?_
  refine RW.op1 rfl (RdL.len Tryd.underlying23 rfl ha) ?_
  refine RW.op1 rfl (runs_move rfl) ?_
  refine RW.op1 rfl (RdL.len Tryd.underlying23 rfl hb) ?_
  refine RW.op1 rfl (runs_neI rfl rfl) ?_
  refine RW.done ?_
  refine AQ.next ?_
  refine CW.cond rfl (fun hc => absurd hc (by simp)) (fun hc => ?_)
  refine CW.skip ?_
  refine AQ.next ?_
  refine CW.seq ?_
  refine CW.seq ?_
  -- region 3
  refine CW.region ?_
  refine RW.op1 rfl (runs_assign rfl) ?_
  refine RW.done ?_
  refine AQ.next ?_
  refine CW.block ?_
  -- loop 1
  refine CW.loop Nat (fun k w => St w0 w I L ∧ k ≤ xs.length) (fun k => [(0, va), (1, vb), (5, .int .i64 (k : Int))]) (fun k => xs.length - k) ⟨0, ⟨hst, Nat.zero_le _⟩, ⟨rfl, rfl, rfl, trivial⟩⟩ ?_
  rintro k w ⟨hstn, hk⟩
  clear hst
  have hst := hstn
  clear hstn
  refine CW.seq ?_
  refine CW.seq ?_
  -- region 4
  refine CW.region ?_
  refine RW.op1 rfl (runs_move rfl) ?_
  refine RW.op1 rfl (runs_move rfl) ?_
  refine RW.op1 rfl (RdL.len Tryd.underlying23 rfl ha) ?_
  refine RW.op1 rfl (runs_lss rfl rfl) ?_
  refine RW.done ?_
  refine AQ.next ?_
  refine CW.cond rfl (fun hc14 => ?_) (fun hc14 => ?_)
  · have hcb14 := hc14
    try simp only [decide_eq_true_eq, decide_eq_false_iff_not] at hc14
    refine CW.skip ?_
    refine AQ.next ?_
    refine CW.seq ?_
    refine CW.block ?_
    refine CW.seq ?_
    -- region 6
    refine CW.drawSt hst (.q 0 (.q 1 (.q 2 (.q 3 (.q 4 (.q 5 (.q 6 (.q 7 (.q 8 .nil))))))))) follows (by kernel_rfl) (fun w hst => ?_)
    refine DRW.q rfl rfl (fun w' hF => runs_move rfl) ?_
    refine DRW.q rfl rfl (fun w' hF => runs_move rfl) ?_
    refine DRW.q rfl rfl (fun w' hF => RdL.indexAddr Tryd.underlying23 ti9 (by decide) rfl rfl ha (by omega)) ?_
    refine DRW.q rfl rfl (FSt.load1 sc9 rfl (RdS.at ha (by omega) (by omega))) ?_
    refine DRW.q rfl rfl (fun w' hF => runs_move rfl) ?_
    refine DRW.q rfl rfl (fun w' hF => runs_move rfl) ?_
    refine DRW.q rfl rfl (fun w' hF => RdL.indexAddr Tryd.underlying23 ti9 (by decide) rfl rfl hb (by omega)) ?_
    refine DRW.q rfl rfl (FSt.load1 sc9 rfl (RdS.at hb (by omega) (by omega))) ?_
    refine DRW.q rfl rfl (fun w' hF => runs_neS rfl rfl) ?_
    refine DRW.done ?_
    refine AQ.next ?_
    refine CW.cond rfl (fun hc => absurd hc (by simp)) (fun hc => ?_)
    refine CW.skip ?_
    refine AQ.block_normal ?_
    refine AQ.next ?_
    -- region 5
    refine CW.region ?_
    refine RW.op1 rfl (runs_move rfl) ?_
    refine RW.op1 rfl (runs_add rfl rfl (by omega)) ?_
    refine RW.op1 rfl (runs_assign rfl) ?_
    refine RW.done ?_
    exact AQ.again (x := k) (k + 1) ⟨hst, by omega⟩ ⟨rfl, rfl, rfl, trivial⟩ (by omega)
  · have hcb14 := hc14
    try simp only [decide_eq_true_eq, decide_eq_false_iff_not] at hc14
    refine CW.exit ?_
    refine AQ.past_exit ?_
    refine AQ.past_exit ?_
    refine AQ.block_hit ?_
    refine AQ.next ?_
    refine CW.seq ?_
    -- region 8
    refine CW.region ?_
    refine RW.op1 rfl (runs_assign rfl) ?_
    refine RW.done ?_
    refine AQ.next ?_
    refine CW.ret ?_
    refine AQ.ret1 rfl rfl ?_
    exact ⟨rfl, hst⟩
set_option maxRecDepth 100000 in
set_option maxHeartbeats 1000000 in
theorem common_spec {w0 w : World} {I : Imm} {L : Own} (hst : St w0 w I L) (m : ByteArray) :
    Calls Tryd.prog 26 #[.string m] w fun e w' => ∃ I', Imm.le I I' ∧ e = .returned (.bool (commonL m.toList)) ∧ St w0 w' I' L := by
  refine enter Tryd.func26 rfl (N := 6) rfl rfl ?_
  simp only [List.zipIdx_cons, List.zipIdx_nil, List.map_cons, List.map_nil, Nat.zero_add, Nat.reduceAdd]
  have hle := Imm.le.refl I
  refine CW.seq ?_
  -- region 0
  refine CW.region ?_
  refine RW.op1 rfl (runs_assign rfl) ?_
  refine RW.done ?_
  refine AQ.next ?_
  refine CW.seq ?_
  -- region 1
  refine CW.region ?_
  refine RW.opE rfl (runs_lit1R Tryd.underlying23 ti9 (by decide) rfl rfl rfl (by simp [Value.oneCell']) hst) ?_
  rintro u1 w ⟨I1, hI1, hstn, h1⟩
  clear hst
  have hst := hstn
  clear hstn
  replace hle := hle.trans hI1
  have hN : RdS _ u1 ([getL, headL, postL].map strOf) := h1
  refine RW.op1 rfl (runs_move rfl) ?_
  refine RW.call rfl call40 rfl rfl (contains_spec hst hN (by decide) m) ?_
  rintro e w ⟨rfl, hstn⟩
  clear hst
  have hst := hstn
  clear hstn
  refine ⟨_, rfl, ?_⟩
  refine RW.op1 rfl (runs_assign rfl) ?_
  refine RW.done ?_
  refine AQ.next ?_
  refine CW.ret ?_
  refine AQ.ret1 rfl rfl ?_
  refine ⟨_, hle, ?_, hst⟩
  unfold commonL
  rw [show [getL, headL, postL].contains m.toList = (m.toList == getL || m.toList == headL || m.toList == postL) by simp [List.contains, List.elem, Bool.or_assoc]; cases m.toList == getL <;> cases m.toList == headL <;> cases m.toList == postL <;> rfl]
set_option maxRecDepth 100000 in
set_option maxHeartbeats 1000000 in
theorem plainMethod_spec {w0 w : World} {I : Imm} {L : Own} (hst : St w0 w I L) (m : ByteArray) :
    Calls Tryd.prog 33 #[.string m] w fun e w' => e = .returned (.bool (commonL m.toList)) ∧ St w0 w' I L := by
  have g1 : (ByteArray.mk #[71, 69, 84]).toList = getL := litL _
  have g2 : (ByteArray.mk #[72, 69, 65, 68]).toList = headL := litL _
  have g3 : (ByteArray.mk #[80, 79, 83, 84]).toList = postL := litL _
  refine enter Tryd.func33 rfl (N := 13) rfl rfl ?_
  simp only [List.zipIdx_cons, List.zipIdx_nil, List.map_cons, List.map_nil, Nat.zero_add, Nat.reduceAdd]
  have hle := Imm.le.refl I
  refine CW.seq ?_
  -- region 0
  refine CW.region ?_
  refine RW.op1 rfl (runs_assign rfl) ?_
  refine RW.done ?_
  refine AQ.next ?_
  refine CW.seq ?_
  -- region 1
  refine CW.region ?_
  refine RW.op1 rfl (runs_move rfl) ?_
  refine RW.op1 rfl (runs_eqS rfl rfl) ?_
  refine RW.op1 rfl (runs_move rfl) ?_
  refine RW.split (t := 5) rfl (fun hb5 => ?_) (fun hb5 => ?_)
  · have hb5p := hb5
    try simp only [decide_eq_true_eq, decide_eq_false_iff_not] at hb5p
    refine RW.off_guard rfl rfl rfl rfl hb5 ?_
    refine RW.off_guard rfl rfl rfl rfl hb5 ?_
    refine RW.op1 rfl (runs_pick_true rfl hb5 rfl) ?_
    refine RW.op1 rfl (runs_move rfl) ?_
    refine RW.off_guard rfl rfl rfl rfl rfl ?_
    refine RW.off_guard rfl rfl rfl rfl rfl ?_
    refine RW.op1 rfl (runs_pick_true rfl rfl rfl) ?_
    refine RW.op1 rfl (runs_assign rfl) ?_
    refine RW.done ?_
    refine AQ.next ?_
    refine CW.ret ?_
    refine AQ.ret1 rfl rfl ?_
    refine ⟨?_, hst⟩
    unfold commonL
    simp_all
  · have hb5p := hb5
    try simp only [decide_eq_true_eq, decide_eq_false_iff_not] at hb5p
    refine RW.on_guard rfl rfl rfl rfl hb5 ?_
    refine RW.op1 rfl (runs_move rfl) ?_
    refine RW.on_guard rfl rfl rfl rfl hb5 ?_
    refine RW.op1 rfl (runs_eqS rfl rfl) ?_
    refine RW.op1 rfl (runs_pick_false rfl hb5 rfl) ?_
    refine RW.op1 rfl (runs_move rfl) ?_
    refine RW.split (t := 9) rfl (fun hb9 => ?_) (fun hb9 => ?_)
    · have hb9p := hb9
      try simp only [decide_eq_true_eq, decide_eq_false_iff_not] at hb9p
      refine RW.off_guard rfl rfl rfl rfl hb9 ?_
      refine RW.off_guard rfl rfl rfl rfl hb9 ?_
      refine RW.op1 rfl (runs_pick_true rfl hb9 rfl) ?_
      refine RW.op1 rfl (runs_assign rfl) ?_
      refine RW.done ?_
      refine AQ.next ?_
      refine CW.ret ?_
      refine AQ.ret1 rfl rfl ?_
      refine ⟨?_, hst⟩
      unfold commonL
      simp_all
    · have hb9p := hb9
      try simp only [decide_eq_true_eq, decide_eq_false_iff_not] at hb9p
      refine RW.on_guard rfl rfl rfl rfl hb9 ?_
      refine RW.op1 rfl (runs_move rfl) ?_
      refine RW.on_guard rfl rfl rfl rfl hb9 ?_
      refine RW.op1 rfl (runs_eqS rfl rfl) ?_
      refine RW.op1 rfl (runs_pick_false rfl hb9 rfl) ?_
      refine RW.op1 rfl (runs_assign rfl) ?_
      refine RW.done ?_
      refine AQ.next ?_
      refine CW.ret ?_
      refine AQ.ret1 rfl rfl ?_
      refine ⟨?_, hst⟩
      unfold commonL
      simp_all
end Go.Proofs.YtfdgnjbbchkgpaaDoorX
