/- Of several headers of one name the first is told: the walk. -/
import Derived.Test.YtdelipmhginegaaT
import Derived.Test.YtdelipmhginegaaH6
namespace Go.Proofs.YtdelipmhginegaaX
set_option linter.unusedVariables false
set_option linter.unusedSimpArgs false
open Go Go.RowKit Go.Proofs

theorem RdL.cellAdd {I : Imm} {size n : Nat} {v : Value} {xs : List Value} (h : RdL I size v n xs) {k j : Nat} {u : Value} (hk : xs[k + j]? = some u) : I.cell? ((slPtr v k).add j) = some u := by
  have h1 := RdL.cell h hk
  obtain ⟨_, _, A, cap, rfl, _, h4⟩ := h
  obtain ⟨a, rfl, _⟩ := h4 (k + j) u hk
  simp only [slPtr] at h1 ⊢
  rw [Addr.add_add]
  exact h1
def names5 : List ByteArray := [⟨#[97]⟩, ⟨#[65]⟩, ⟨#[98, 45, 49]⟩, ⟨#[66, 45, 49]⟩, ⟨#[99]⟩]
theorem names5_pos : ∀ n ∈ names5, 1 ≤ n.size ∧ n.size ≤ 3 := by decide
def l5 : List (List UInt8) := [[97], [65], [98, 45, 49], [66, 45, 49], [99]]
theorem names5_l5 {n : ByteArray} (h : n ∈ names5) : n.toList ∈ l5 := by
  unfold names5 at h
  simp only [List.mem_cons, List.not_mem_nil, or_false] at h
  rcases h with rfl | rfl | rfl | rfl | rfl <;> rw [ByteArray.toList_eq] <;> decide
def or32 (c : UInt8) : Int := bitop .or .u8 (c.toNat : Int) 32
theorem eq5 : ∀ a ∈ l5, ∀ n ∈ l5, ((a == n) = true → (lower a == lower n) = true) ∧ ((a == n) = false → decide ((n.length : Int) = a.length) = false → (lower a == lower n) = false) ∧
    ((a == n) = false → decide ((n.length : Int) = a.length) = true → decide (or32 (n.getD 0 0) = or32 (a.getD 0 0)) = false → (lower a == lower n) = false) ∧
    ((a == n) = false → decide ((n.length : Int) = a.length) = true → decide (or32 (n.getD 0 0) = or32 (a.getD 0 0)) = true → (n.drop 1 == a.drop 1) = (lower a == lower n)) := by decide +kernel
theorem first_byte {s : ByteArray} (h : 0 < s.size) : (s[((0 : Int)).toNat]'h) = s.toList.getD 0 0 := by
  have h2 : 0 < s.toList.length := by rw [size_toList]; exact h
  rw [bget (i := ((0 : Int)).toNat) h]
  simp [h2]
theorem extract_toList {s : ByteArray} {i j : Nat} : (s.extract i j).toList = (s.toList.drop i).take (j - i) := by
  rw [ByteArray.toList_eq, ByteArray.toList_eq, ByteArray.data_extract]
  simp [List.take_drop]
theorem tail_toList {s : ByteArray} : (s.extract ((1 : Int)).toNat s.size).toList = s.toList.drop 1 := by
  rw [extract_toList]
  exact List.take_of_length_le (by rw [List.length_drop, size_toList]; show s.size - 1 ≤ s.size - 1; omega)
theorem getH_empty {hs : List HRow} (h : ∀ r ∈ hs, r.1 ∈ names5) : (getH ⟨#[]⟩ hs).2 = false := by
  have : hs.find? (fun r => lowEq r.1 ⟨#[]⟩) = none := by
    rw [List.find?_eq_none]
    intro r hr hl
    have h1 := names5_pos _ (h r hr)
    unfold lowEq at hl
    have h2 := congrArg List.length (beq_iff_eq.1 hl)
    simp only [lower, List.length_map, size_toList] at h2
    have : (⟨#[]⟩ : ByteArray).size = 0 := rfl
    omega
  unfold getH
  rw [this]
theorem getH_cons {n : ByteArray} {r : HRow} {t : List HRow} : getH n (r :: t) = if lowEq r.1 n = true then (r.2, true) else getH n t := by
  unfold getH
  rw [List.find?_cons]
  cases h : lowEq r.1 n <;> rfl
theorem mem5 {i : Nat} (h : i < 5) : names5.getD i ⟨#[]⟩ ∈ names5 := by
  match i, h with
  | 0, _ => simp [names5]
  | 1, _ => simp [names5]
  | 2, _ => simp [names5]
  | 3, _ => simp [names5]
  | 4, _ => simp [names5]
def dg (k : Nat) : UInt8 := u8 (48 + (k : Int))
theorem getH_nil {n : ByteArray} : getH n [] = (⟨#[]⟩, false) := rfl
set_option maxRecDepth 100000 in
set_option maxHeartbeats 1000000 in
theorem headFirst_spec {w0 w : World} {I : Imm} {L : Own} (hst : St w0 w I L) {vl : Value} {ls : List Int} (hl : RdI I vl ls) (hls : ∀ x ∈ ls, i64ok x) (hll : ls.length ≤ 9223372036854775807) (kk : Int) :
    Calls Try.prog 3 #[vl, .int .i64 kk] w fun e w' => e = .returned (.bool true) ∧ ∃ I', I.le I' ∧ St w0 w' I' L := by
  refine enter Try.func3 rfl (N := 130) rfl rfl ?_
  simp only [List.zipIdx_cons, List.zipIdx_nil, List.map_cons, List.map_nil, Nat.zero_add, Nat.reduceAdd]
  have hle := Imm.le.refl I
  refine CW.seq ?_
  -- region 0
  refine CW.region ?_
  refine RW.op1 rfl (runs_assign rfl) ?_
  refine RW.done ?_
  refine AQ.next ?_
  refine CW.seq ?_
  -- region 1
  refine CW.region ?_
  refine RW.opE rfl (runs_lit1R Try.underlying23 ti9 (by decide) rfl rfl rfl (by simp [Value.oneCell']) hst) ?_
  rintro u1 w ⟨I1, hI1, hstn, h1⟩
  clear hst
  have hst := hstn
  clear hstn
  replace hle := hle.trans hI1
  have hN : RdS _ u1 names5 := h1
  refine RW.op1 rfl (runs_assign rfl) ?_
  refine RW.done ?_
  refine AQ.next ?_
  refine CW.seq ?_
  -- region 2
  refine CW.region ?_
  refine RW.op1 rfl (runs_assign rfl) ?_
  refine RW.done ?_
  refine AQ.next ?_
  refine CW.seq ?_
  refine CW.seq ?_
  -- region 3
  refine CW.region ?_
  refine RW.op1 rfl (runs_assign rfl) ?_
  refine RW.done ?_
  refine AQ.next ?_
  refine CW.block ?_
  -- loop 1
  refine CW.loop (Nat × Imm × Value × Own × List HRow) (fun x w => I.le x.2.1 ∧ St w0 w x.2.1 (x.2.2.2.1 ++ L) ∧ RdS x.2.1 u1 names5 ∧ Grow 28 2 x.2.2.1 x.2.2.2.2.length (x.2.2.2.2.flatMap hrow) x.2.2.2.1 ∧ x.2.2.2.2.length = x.1 ∧ x.1 ≤ 9 ∧ ∀ r ∈ x.2.2.2.2, r.1 ∈ names5 ∧ r.2.size ≤ 1) (fun x => [(0, vl), (5, u1), (6, x.2.2.1), (7, .int .i64 (x.1 : Int))]) (fun x => 9 - x.1) ⟨(0, _, _, [], []), ⟨hle, hst, hN, Grow.nil _ 2, rfl, Nat.zero_le _, by simp⟩, ⟨rfl, rfl, rfl, rfl, trivial⟩⟩ ?_
  clear hN h1 hle
  rintro ⟨k, I5, v5, Lv5, hs⟩ w ⟨hle, hstn, hN, hg5, hk, hk9, hhs⟩
  dsimp only at hle hstn hN hg5 hk hk9 hhs ⊢
  clear hst
  have hst := hstn
  clear hstn
  have hl5 := RdL.mono hle hl
  have hN5 := hN
  refine CW.seq ?_
  refine CW.seq ?_
  -- region 4
  refine CW.cut Unit (fun _ w => St w0 w I5 (Lv5 ++ L)) (fun _ => [(0, vl), (5, u1), (6, v5), (7, .int .i64 (k : Int)), (25, .bool (decide (k < ls.length ∧ k < 9)))]) ?_ ?_
  · -- region 4
    refine CW.region ?_
    refine RW.op1 rfl (runs_move rfl) ?_
    refine RW.op1 rfl (runs_move rfl) ?_
    refine RW.op1 rfl (RdL.len Try.underlying22 rfl hl5) ?_
    refine RW.op1 rfl (runs_lss rfl rfl) ?_
    refine RW.op1 rfl (runs_move rfl) ?_
    refine RW.split (t := 22) rfl (fun hb22 => ?_) (fun hb22 => ?_)
    · have hb22p := hb22
      try simp only [decide_eq_true_eq, decide_eq_false_iff_not] at hb22p
      refine RW.on_guard rfl rfl rfl rfl hb22 ?_
      refine RW.op1 rfl (runs_move rfl) ?_
      refine RW.on_guard rfl rfl rfl rfl hb22 ?_
      refine RW.op1 rfl (runs_lss rfl rfl) ?_
      refine RW.op1 rfl (runs_pick_true rfl hb22 rfl) ?_
      refine RW.done ?_
      exact AQ.meet () hst ⟨rfl, rfl, rfl, rfl, (by first | (rw [decide_eq_false (show ¬ (k < ls.length ∧ k < 9) by omega)]; rfl) | (rw [show decide (k < ls.length ∧ k < 9) = decide ((k : Int) < 9) by apply decide_eq_decide.2; omega]; rfl)), trivial⟩
    · have hb22p := hb22
      try simp only [decide_eq_true_eq, decide_eq_false_iff_not] at hb22p
      refine RW.off_guard rfl rfl rfl rfl hb22 ?_
      refine RW.off_guard rfl rfl rfl rfl hb22 ?_
      refine RW.op1 rfl (runs_pick_false rfl hb22 rfl) ?_
      refine RW.done ?_
      exact AQ.meet () hst ⟨rfl, rfl, rfl, rfl, (by first | (rw [decide_eq_false (show ¬ (k < ls.length ∧ k < 9) by omega)]; rfl) | (rw [show decide (k < ls.length ∧ k < 9) = decide ((k : Int) < 9) by apply decide_eq_decide.2; omega]; rfl)), trivial⟩
  · rintro _ w hstn
    clear hst
    have hst := hstn
    clear hstn
    refine AQ.next ?_
    refine CW.cond rfl (fun hc25 => ?_) (fun hc25 => ?_)
    · have hcb25 := hc25
      try simp only [decide_eq_true_eq, decide_eq_false_iff_not] at hc25
      have hw5 := within_range (iat ls (k : Int)) 5
      have hiok : i64ok (iat ls (k : Int)) := by rw [iat_get hc25.1]; exact hls _ (List.getElem_mem _)
      refine CW.skip ?_
      refine AQ.next ?_
      refine CW.seq ?_
      refine CW.block ?_
      -- region 6
      refine CW.cut (Imm × Value × Own × HRow) (fun y w => I.le y.1 ∧ RdS y.1 u1 names5 ∧ St w0 w y.1 (y.2.2.1 ++ L) ∧ Grow 28 2 y.2.1 (hs ++ [y.2.2.2]).length ((hs ++ [y.2.2.2]).flatMap hrow) y.2.2.1 ∧ y.2.2.2.1 ∈ names5 ∧ y.2.2.2.2.size ≤ 1) (fun y => [(0, vl), (5, u1), (6, y.2.1), (7, .int .i64 (k : Int))]) ?_ ?_
      · -- region 6
        refine CW.draw (FSt w0 I5 L) (.q 0 (.q 1 (.q 2 (.q 3 (.q 4 (.q 5 (.q 9 (.q 10 (.q 11 (.fork (.l 6 (.q 7 (.q 8 (.l 12 (.l 13 (.q 14 (.l 15 (.l 16 (.q 17 .nil))))))))) (.l 12 (.fork (.l 6 (.q 7 (.q 8 (.l 13 (.q 14 (.l 15 (.l 16 (.q 17 .nil)))))))) (.l 13 (.l 6 (.q 7 (.q 8 (.q 14 (.l 15 (.l 16 (.q 17 .nil)))))))))))))))))))) follows (by kernel_rfl) ⟨_, Imm.le.refl _, hst.draw.sub (List.sublist_append_right _ _)⟩ ?_
        replace hst := hst.draw
        refine DRW.q rfl rfl (fun w' hF => runs_move rfl) ?_
        refine DRW.q rfl rfl (fun w' hF => runs_move rfl) ?_
        refine DRW.q rfl rfl (fun w' hF => runs_move rfl) ?_
        refine DRW.q rfl rfl (fun w' hF => runs_move rfl) ?_
        refine DRW.q rfl rfl (fun w' hF => RdL.indexAddr Try.underlying22 ti3 (by decide) rfl rfl hl5 (by omega)) ?_
        refine DRW.q rfl rfl (FSt.load1 sc3 rfl (RdI.at hl5 (by omega) (by omega))) ?_
        refine DRW.q rfl rfl (fun w' hF => runs_move rfl) ?_
        refine DRW.q rfl rfl (fun w' hF => runs_add rfl rfl (by omega)) ?_
        refine DRW.q rfl rfl (fun w' hF => runs_convB (by rw [Try.underlying3]; rfl) Try.underlying5 rfl) ?_
        refine DRW.fork ?_ ?_
        · refine DRW.call rfl rfl call8 rfl rfl (within_spec hst (v := iat ls (k : Int)) (n := 5) hiok (by unfold i64ok; decide)) ?_
          rintro e w ⟨rfl, hstn⟩
          clear hst
          have hst := hstn
          clear hstn
          refine ⟨_, rfl, FSt.of hst (Imm.le.refl _) (by first | exact (List.sublist_cons_self _ _).trans (List.sublist_append_right _ _) | exact List.Sublist.refl _ | exact List.sublist_cons_self _ _ | exact List.sublist_append_right _ _ | exact (List.sublist_cons_self _ _).trans (List.sublist_cons_self _ _) | exact (List.sublist_append_right _ _).trans (List.sublist_cons_self _ _) | simp), ?_⟩
          refine DRW.q rfl rfl (fun w' hF => RdL.indexAddr Try.underlying23 ti9 (by decide) rfl rfl hN (by show 0 ≤ within (iat ls (k : Int)) 5 ∧ within (iat ls (k : Int)) 5 < 5; omega)) ?_
          refine DRW.q rfl rfl (FSt.load1 sc9 rfl (RdS.at hN5 (by omega) (by show within (iat ls (k : Int)) 5 < 5; omega))) ?_
          refine DRW.opE rfl rfl (runs_litB (bs := [dg k]) rfl Try.underlying26 ti5 (by decide) rfl rfl rfl hst) ?_
          rintro u3 w ⟨I3, hI3, hstn, h3⟩
          clear hst
          have hst := hstn
          clear hstn
          replace hN := hN.mono hI3
          replace hle := hle.trans hI3
          refine ⟨FSt.of hst hI3 (by first | exact (List.sublist_cons_self _ _).trans (List.sublist_append_right _ _) | exact List.Sublist.refl _ | exact List.sublist_cons_self _ _ | exact List.sublist_append_right _ _ | exact (List.sublist_cons_self _ _).trans (List.sublist_cons_self _ _) | exact (List.sublist_append_right _ _).trans (List.sublist_cons_self _ _) | simp), ?_⟩
          have hC : RdB _ u3 [dg k] := h3
          refine DRW.op1 rfl rfl (RdB.string Try.underlying26 Try.underlying5 Try.underlying9 rfl hC hst) (FSt.of hst hI3 (by first | exact (List.sublist_cons_self _ _).trans (List.sublist_append_right _ _) | exact List.Sublist.refl _ | exact List.sublist_cons_self _ _ | exact List.sublist_append_right _ _ | exact (List.sublist_cons_self _ _).trans (List.sublist_cons_self _ _) | exact (List.sublist_append_right _ _).trans (List.sublist_cons_self _ _) | simp)) ?_
          refine DRW.q rfl rfl (fun w' hF => runs_buildF (cells := [_, _]) bz28 rfl rfl rfl rfl rfl) ?_
          refine DRW.opE rfl rfl (runs_litF (xs := [.agg #[_, _]]) Try.underlying24 ti28 (by decide) rfl rfl rfl rfl rfl hst (by decide)) ?_
          rintro u4 w ⟨Lv4, hstn, hg4⟩
          clear hst
          have hst := hstn
          clear hstn
          refine ⟨FSt.of hst hI3 (by first | exact (List.sublist_cons_self _ _).trans (List.sublist_append_right _ _) | exact List.Sublist.refl _ | exact List.sublist_cons_self _ _ | exact List.sublist_append_right _ _ | exact (List.sublist_cons_self _ _).trans (List.sublist_cons_self _ _) | exact (List.sublist_append_right _ _).trans (List.sublist_cons_self _ _) | simp), ?_⟩
          obtain ⟨J4, hJ4, hstn, h4⟩ := Grow.freeze hg4 hst
          clear hst
          have hst := hstn
          clear hstn
          replace hN := hN.mono hJ4
          replace h3 := h3.mono hJ4
          replace hC := hC.mono hJ4
          replace hle := hle.trans hJ4
          try simp only [List.nil_append] at h4
          replace h4 : RdL _ 2 u4 1 (hrow (sat names5 (within (iat ls (k : Int)) 5), strOf [dg k])) := h4
          have hR := h4
          refine DRW.opE rfl rfl (runs_appendR Try.underlying24 ti28 rfl (by decide) rfl rfl hst hg5 hR (by omega) (by unfold maxLen; omega)) ?_
          rintro u5 w ⟨Lv5, hstn, hg5⟩
          clear hst
          have hst := hstn
          clear hstn
          refine ⟨FSt.of hst (hI3.trans hJ4) (by first | exact (List.sublist_cons_self _ _).trans (List.sublist_append_right _ _) | exact List.Sublist.refl _ | exact List.sublist_cons_self _ _ | exact List.sublist_append_right _ _ | exact (List.sublist_cons_self _ _).trans (List.sublist_cons_self _ _) | exact (List.sublist_append_right _ _).trans (List.sublist_cons_self _ _) | simp), ?_⟩
          have hgN : Grow 28 2 u5 (hs ++ [(sat names5 (within (iat ls (k : Int)) 5), strOf [dg k])]).length ((hs ++ [(sat names5 (within (iat ls (k : Int)) 5), strOf [dg k])]).flatMap hrow) Lv5 := by
            rw [List.length_append, List.flatMap_append]
            exact hg5
          refine DRW.q rfl rfl (fun w' hF => runs_assign rfl) ?_
          refine DRW.done ?_
          exact AQ.meet (_, _, _, (sat names5 (within (iat ls (k : Int)) 5), strOf [dg k])) ⟨hle, hN, hst, hgN, by unfold sat; exact mem5 (by omega), Nat.le_refl 1⟩ ⟨rfl, rfl, rfl, rfl, trivial⟩
        refine DRW.opE rfl rfl (runs_litB (bs := [dg k]) rfl Try.underlying26 ti5 (by decide) rfl rfl rfl hst) ?_
        rintro u6 w ⟨I6, hI6, hstn, h6⟩
        clear hst
        have hst := hstn
        clear hstn
        replace hN := hN.mono hI6
        replace hle := hle.trans hI6
        refine ⟨FSt.of hst hI6 (by first | exact (List.sublist_cons_self _ _).trans (List.sublist_append_right _ _) | exact List.Sublist.refl _ | exact List.sublist_cons_self _ _ | exact List.sublist_append_right _ _ | exact (List.sublist_cons_self _ _).trans (List.sublist_cons_self _ _) | exact (List.sublist_append_right _ _).trans (List.sublist_cons_self _ _) | simp), ?_⟩
        have hC : RdB _ u6 [dg k] := h6
        refine DRW.fork ?_ ?_
        · refine DRW.call rfl rfl call8 rfl rfl (within_spec hst (v := iat ls (k : Int)) (n := 5) hiok (by unfold i64ok; decide)) ?_
          rintro e w ⟨rfl, hstn⟩
          clear hst
          have hst := hstn
          clear hstn
          refine ⟨_, rfl, FSt.of hst hI6 (by first | exact (List.sublist_cons_self _ _).trans (List.sublist_append_right _ _) | exact List.Sublist.refl _ | exact List.sublist_cons_self _ _ | exact List.sublist_append_right _ _ | exact (List.sublist_cons_self _ _).trans (List.sublist_cons_self _ _) | exact (List.sublist_append_right _ _).trans (List.sublist_cons_self _ _) | simp), ?_⟩
          refine DRW.q rfl rfl (fun w' hF => RdL.indexAddr Try.underlying23 ti9 (by decide) rfl rfl hN (by show 0 ≤ within (iat ls (k : Int)) 5 ∧ within (iat ls (k : Int)) 5 < 5; omega)) ?_
          refine DRW.q rfl rfl (FSt.load1 sc9 rfl (RdS.at hN5 (by omega) (by show within (iat ls (k : Int)) 5 < 5; omega))) ?_
          refine DRW.op1 rfl rfl (RdB.string Try.underlying26 Try.underlying5 Try.underlying9 rfl hC hst) (FSt.of hst hI6 (by first | exact (List.sublist_cons_self _ _).trans (List.sublist_append_right _ _) | exact List.Sublist.refl _ | exact List.sublist_cons_self _ _ | exact List.sublist_append_right _ _ | exact (List.sublist_cons_self _ _).trans (List.sublist_cons_self _ _) | exact (List.sublist_append_right _ _).trans (List.sublist_cons_self _ _) | simp)) ?_
          refine DRW.q rfl rfl (fun w' hF => runs_buildF (cells := [_, _]) bz28 rfl rfl rfl rfl rfl) ?_
          refine DRW.opE rfl rfl (runs_litF (xs := [.agg #[_, _]]) Try.underlying24 ti28 (by decide) rfl rfl rfl rfl rfl hst (by decide)) ?_
          rintro u8 w ⟨Lv8, hstn, hg8⟩
          clear hst
          have hst := hstn
          clear hstn
          refine ⟨FSt.of hst hI6 (by first | exact (List.sublist_cons_self _ _).trans (List.sublist_append_right _ _) | exact List.Sublist.refl _ | exact List.sublist_cons_self _ _ | exact List.sublist_append_right _ _ | exact (List.sublist_cons_self _ _).trans (List.sublist_cons_self _ _) | exact (List.sublist_append_right _ _).trans (List.sublist_cons_self _ _) | simp), ?_⟩
          obtain ⟨J8, hJ8, hstn, h8⟩ := Grow.freeze hg8 hst
          clear hst
          have hst := hstn
          clear hstn
          replace hN := hN.mono hJ8
          replace h6 := h6.mono hJ8
          replace hC := hC.mono hJ8
          replace hle := hle.trans hJ8
          try simp only [List.nil_append] at h8
          replace h8 : RdL _ 2 u8 1 (hrow (sat names5 (within (iat ls (k : Int)) 5), strOf [dg k])) := h8
          have hR := h8
          refine DRW.opE rfl rfl (runs_appendR Try.underlying24 ti28 rfl (by decide) rfl rfl hst hg5 hR (by omega) (by unfold maxLen; omega)) ?_
          rintro u9 w ⟨Lv9, hstn, hg9⟩
          clear hst
          have hst := hstn
          clear hstn
          refine ⟨FSt.of hst (hI6.trans hJ8) (by first | exact (List.sublist_cons_self _ _).trans (List.sublist_append_right _ _) | exact List.Sublist.refl _ | exact List.sublist_cons_self _ _ | exact List.sublist_append_right _ _ | exact (List.sublist_cons_self _ _).trans (List.sublist_cons_self _ _) | exact (List.sublist_append_right _ _).trans (List.sublist_cons_self _ _) | simp), ?_⟩
          have hgN : Grow 28 2 u9 (hs ++ [(sat names5 (within (iat ls (k : Int)) 5), strOf [dg k])]).length ((hs ++ [(sat names5 (within (iat ls (k : Int)) 5), strOf [dg k])]).flatMap hrow) Lv9 := by
            rw [List.length_append, List.flatMap_append]
            exact hg9
          refine DRW.q rfl rfl (fun w' hF => runs_assign rfl) ?_
          refine DRW.done ?_
          exact AQ.meet (_, _, _, (sat names5 (within (iat ls (k : Int)) 5), strOf [dg k])) ⟨hle, hN, hst, hgN, by unfold sat; exact mem5 (by omega), Nat.le_refl 1⟩ ⟨rfl, rfl, rfl, rfl, trivial⟩
        refine DRW.op1 rfl rfl (RdB.string Try.underlying26 Try.underlying5 Try.underlying9 rfl hC hst) (FSt.of hst hI6 (by first | exact (List.sublist_cons_self _ _).trans (List.sublist_append_right _ _) | exact List.Sublist.refl _ | exact List.sublist_cons_self _ _ | exact List.sublist_append_right _ _ | exact (List.sublist_cons_self _ _).trans (List.sublist_cons_self _ _) | exact (List.sublist_append_right _ _).trans (List.sublist_cons_self _ _) | simp)) ?_
        refine DRW.call rfl rfl call8 rfl rfl (within_spec hst (v := iat ls (k : Int)) (n := 5) hiok (by unfold i64ok; decide)) ?_
        rintro e w ⟨rfl, hstn⟩
        clear hst
        have hst := hstn
        clear hstn
        refine ⟨_, rfl, FSt.of hst hI6 (by first | exact (List.sublist_cons_self _ _).trans (List.sublist_append_right _ _) | exact List.Sublist.refl _ | exact List.sublist_cons_self _ _ | exact List.sublist_append_right _ _ | exact (List.sublist_cons_self _ _).trans (List.sublist_cons_self _ _) | exact (List.sublist_append_right _ _).trans (List.sublist_cons_self _ _) | simp), ?_⟩
        refine DRW.q rfl rfl (fun w' hF => RdL.indexAddr Try.underlying23 ti9 (by decide) rfl rfl hN (by show 0 ≤ within (iat ls (k : Int)) 5 ∧ within (iat ls (k : Int)) 5 < 5; omega)) ?_
        refine DRW.q rfl rfl (FSt.load1 sc9 rfl (RdS.at hN5 (by omega) (by show within (iat ls (k : Int)) 5 < 5; omega))) ?_
        refine DRW.q rfl rfl (fun w' hF => runs_buildF (cells := [_, _]) bz28 rfl rfl rfl rfl rfl) ?_
        refine DRW.opE rfl rfl (runs_litF (xs := [.agg #[_, _]]) Try.underlying24 ti28 (by decide) rfl rfl rfl rfl rfl hst (by decide)) ?_
        rintro u11 w ⟨Lv11, hstn, hg11⟩
        clear hst
        have hst := hstn
        clear hstn
        refine ⟨FSt.of hst hI6 (by first | exact (List.sublist_cons_self _ _).trans (List.sublist_append_right _ _) | exact List.Sublist.refl _ | exact List.sublist_cons_self _ _ | exact List.sublist_append_right _ _ | exact (List.sublist_cons_self _ _).trans (List.sublist_cons_self _ _) | exact (List.sublist_append_right _ _).trans (List.sublist_cons_self _ _) | simp), ?_⟩
        obtain ⟨J11, hJ11, hstn, h11⟩ := Grow.freeze hg11 hst
        clear hst
        have hst := hstn
        clear hstn
        replace hN := hN.mono hJ11
        replace h6 := h6.mono hJ11
        replace hC := hC.mono hJ11
        replace hle := hle.trans hJ11
        try simp only [List.nil_append] at h11
        replace h11 : RdL _ 2 u11 1 (hrow (sat names5 (within (iat ls (k : Int)) 5), strOf [dg k])) := h11
        have hR := h11
        refine DRW.opE rfl rfl (runs_appendR Try.underlying24 ti28 rfl (by decide) rfl rfl hst hg5 hR (by omega) (by unfold maxLen; omega)) ?_
        rintro u12 w ⟨Lv12, hstn, hg12⟩
        clear hst
        have hst := hstn
        clear hstn
        refine ⟨FSt.of hst (hI6.trans hJ11) (by first | exact (List.sublist_cons_self _ _).trans (List.sublist_append_right _ _) | exact List.Sublist.refl _ | exact List.sublist_cons_self _ _ | exact List.sublist_append_right _ _ | exact (List.sublist_cons_self _ _).trans (List.sublist_cons_self _ _) | exact (List.sublist_append_right _ _).trans (List.sublist_cons_self _ _) | simp), ?_⟩
        have hgN : Grow 28 2 u12 (hs ++ [(sat names5 (within (iat ls (k : Int)) 5), strOf [dg k])]).length ((hs ++ [(sat names5 (within (iat ls (k : Int)) 5), strOf [dg k])]).flatMap hrow) Lv12 := by
          rw [List.length_append, List.flatMap_append]
          exact hg12
        refine DRW.q rfl rfl (fun w' hF => runs_assign rfl) ?_
        refine DRW.done ?_
        exact AQ.meet (_, _, _, (sat names5 (within (iat ls (k : Int)) 5), strOf [dg k])) ⟨hle, hN, hst, hgN, by unfold sat; exact mem5 (by omega), Nat.le_refl 1⟩ ⟨rfl, rfl, rfl, rfl, trivial⟩
      · clear hle hN
        rintro ⟨I6, v6, Lv6, r6⟩ w ⟨hle, hN, hstn, hg6, hr6, hs6⟩
        dsimp only at hle hN hstn hg6 hr6 hs6 ⊢
        clear hst
        have hst := hstn
        clear hstn
        refine AQ.block_normal ?_
        refine AQ.next ?_
        -- region 5
        refine CW.region ?_
        refine RW.op1 rfl (runs_move rfl) ?_
        refine RW.op1 rfl (runs_add rfl rfl (by omega)) ?_
        refine RW.op1 rfl (runs_assign rfl) ?_
        refine RW.done ?_
        exact AQ.again (x := (k, I5, v5, Lv5, hs)) (k + 1, I6, v6, Lv6, hs ++ [r6]) ⟨hle, hst, hN, hg6, by simp [hk], by omega, by
          intro r hr
          rcases List.mem_append.1 hr with h | h
          · exact hhs r h
          · rw [List.mem_singleton.1 h]; exact ⟨hr6, hs6⟩⟩ ⟨rfl, rfl, rfl, rfl, trivial⟩ (by dsimp only; omega)
    · have hcb25 := hc25
      try simp only [decide_eq_true_eq, decide_eq_false_iff_not] at hc25
      skip
      refine CW.exit ?_
      refine AQ.past_exit ?_
      refine AQ.past_exit ?_
      refine AQ.block_hit ?_
      refine AQ.next ?_
      refine CW.seq ?_
      refine CW.seq ?_
      -- region 7
      refine CW.region ?_
      obtain ⟨I7, hI7, hstn, hH⟩ := Grow.freeze hg5 hst
      clear hst
      have hst := hstn
      clear hstn
      replace hN := RdS.mono hN hI7
      replace hle := hle.trans hI7
      replace hH : RdH I7 v5 hs := hH
      refine RW.op1 rfl (runs_move rfl) ?_
      refine RW.op1 rfl (RdL.len Try.underlying23 rfl hN) ?_
      refine RW.op1 rfl (runs_move rfl) ?_
      refine RW.done ?_
      refine AQ.next ?_
      refine CW.block ?_
      -- loop 2
      refine CW.loop (Nat × Imm) (fun x w => I.le x.2 ∧ St w0 w x.2 L ∧ RdS x.2 u1 names5 ∧ RdH x.2 v5 hs ∧ x.1 ≤ 5) (fun x => [(6, v5), (45, u1), (46, .int .i64 (5 : Nat)), (47, .int .i64 (x.1 : Int))]) (fun x => 5 - x.1) ⟨(0, _), ⟨hle, hst, hN, hH, Nat.zero_le _⟩, ⟨rfl, rfl, rfl, rfl, trivial⟩⟩ ?_
      clear hN hH hle
      rintro ⟨j, I8⟩ w ⟨hle, hstn, hN, hH, hj⟩
      dsimp only at hle hstn hN hH hj ⊢
      clear hst
      have hst := hstn
      clear hstn
      refine CW.seq ?_
      -- region 8
      refine CW.region ?_
      refine RW.op1 rfl (runs_lss rfl rfl) ?_
      refine RW.done ?_
      refine AQ.next ?_
      refine CW.seq ?_
      refine CW.cond rfl (fun hc48 => ?_) (fun hc48 => ?_)
      · have hcb48 := hc48
        try simp only [decide_eq_true_eq, decide_eq_false_iff_not] at hc48
        have hj5 : j < names5.length := by show j < 5; omega
        have hnm := List.getElem_mem hj5
        have hsg := sat_get hj5
        obtain ⟨n, hn⟩ : ∃ n, names5[j] = n := ⟨_, rfl⟩
        rw [hn] at hnm hsg
        have hnp := names5_pos n hnm
        refine CW.skip ?_
        refine AQ.next ?_
        refine CW.seq ?_
        refine CW.block ?_
        refine CW.seq ?_
        -- region 9
        refine CW.region ?_
        refine RW.op1 rfl (RdL.indexAddr Try.underlying23 ti9 (by decide) rfl rfl hN (by show 0 ≤ (j : Int) ∧ (j : Int) < 5; omega)) ?_
        refine RW.op1 rfl (runs_load1 sc9 rfl (hst.cell_imm (RdS.at hN (by omega) (by show (j : Int) < 5; omega)))) ?_
        refine RW.op1 rfl (runs_assign rfl) ?_
        rw [hsg]
        refine RW.done ?_
        refine AQ.next ?_
        refine CW.seq ?_
        -- region 10
        refine CW.region ?_
        refine RW.op1 rfl (runs_move rfl) ?_
        refine RW.op1 rfl (runs_move rfl) ?_
        refine RW.call rfl call9 rfl rfl (get_spec hst n (by omega) hH (fun r h => by have := names5_pos _ (hhs r h).1; omega) (by omega)) ?_
        rintro e w ⟨I13, hI13, rfl, hstn⟩
        clear hst
        have hst := hstn
        clear hstn
        replace hN := hN.mono hI13
        replace hH := hH.mono hI13
        replace hle := hle.trans hI13
        refine ⟨_, rfl, ?_⟩
        refine RW.op1 rfl (runs_move rfl) ?_
        refine RW.op1 rfl (runs_extract rfl rfl) ?_
        refine RW.op1 rfl (runs_extract rfl rfl) ?_
        refine RW.op1 rfl (runs_assign rfl) ?_
        refine RW.op1 rfl (runs_assign rfl) ?_
        refine RW.done ?_
        refine AQ.next ?_
        refine CW.seq ?_
        -- region 11
        refine CW.region ?_
        refine RW.op1 rfl (runs_assign rfl) ?_
        refine RW.op1 rfl (runs_assign rfl) ?_
        refine RW.done ?_
        refine AQ.next ?_
        refine CW.seq ?_
        refine CW.seq ?_
        -- region 12
        refine CW.region ?_
        refine RW.op1 rfl (runs_move rfl) ?_
        refine RW.op1 rfl (RdL.len Try.underlying24 rfl hH) ?_
        refine RW.op1 rfl (runs_sub rfl rfl (by omega)) ?_
        refine RW.op1 rfl (runs_assign rfl) ?_
        refine RW.done ?_
        refine AQ.next ?_
        refine CW.block ?_
        -- loop 3
        refine CW.loop Nat (fun m w => St w0 w _ L ∧ m ≤ hs.length) (fun m => [(6, v5), (9, .string n), (10, .string (getH n hs).1), (11, .bool (getH n hs).2), (12, .string (getH n (hs.drop m)).1), (13, .bool (getH n (hs.drop m)).2), (14, .int .i64 ((m : Int) - 1)), (45, u1), (46, .int .i64 (5 : Nat)), (47, .int .i64 (j : Int))]) (fun m => m) ⟨hs.length, ⟨hst, Nat.le_refl _⟩, ⟨rfl, rfl, rfl, rfl, by rw [List.drop_length, getH_nil]; rfl, by rw [List.drop_length, getH_nil]; rfl, rfl, rfl, rfl, rfl, trivial⟩⟩ ?_
        rintro m w ⟨hstn, hm⟩
        clear hst
        have hst := hstn
        clear hstn
        refine CW.seq ?_
        refine CW.seq ?_
        -- region 13
        refine CW.region ?_
        refine RW.op1 rfl (runs_move rfl) ?_
        refine RW.op1 rfl (runs_geq rfl rfl) ?_
        refine RW.done ?_
        refine AQ.next ?_
        refine CW.cond rfl (fun hc61 => ?_) (fun hc61 => ?_)
        · have hcb61 := hc61
          try simp only [decide_eq_true_eq, decide_eq_false_iff_not] at hc61
          obtain ⟨p, rfl⟩ : ∃ p, m = p + 1 := ⟨m - 1, by omega⟩
          have hpe : (((p + 1 : Nat) : Int) - 1) = (p : Int) := by omega
          have hp1 : p < hs.length := by omega
          rw [hpe]
          obtain ⟨r, hr⟩ : ∃ r, hs[p] = r := ⟨_, rfl⟩
          have hr2 : hs[p]? = some r := by rw [List.getElem?_eq_getElem hp1, hr]
          have hrm := hhs r (by rw [← hr]; exact List.getElem_mem _)
          have hrp := names5_pos r.1 hrm.1
          obtain ⟨e1, e2, e3, e4⟩ := eq5 r.1.toList (names5_l5 hrm.1) n.toList (names5_l5 hnm)
          rw [size_toList, size_toList] at e2 e3 e4
          rw [← first_byte (s := n) (by omega), ← first_byte (s := r.1) (by omega)] at e3 e4
          rw [← tail_toList (s := n), ← tail_toList (s := r.1)] at e4
          unfold or32 at e3 e4
          have hdp : hs.drop p = r :: hs.drop (p + 1) := by rw [List.drop_eq_getElem_cons hp1, hr]
          refine CW.skip ?_
          refine AQ.next ?_
          refine CW.seq ?_
          refine CW.block ?_
          refine CW.seq ?_
          -- region 15
          refine CW.cut Unit (fun _ w => St w0 w I13 L) (fun _ => [(6, v5), (9, .string n), (10, .string (getH n hs).1), (11, .bool (getH n hs).2), (12, .string (getH n (hs.drop (p + 1))).1), (13, .bool (getH n (hs.drop (p + 1))).2), (14, .int .i64 (p : Int)), (45, u1), (46, .int .i64 (5 : Nat)), (47, .int .i64 (j : Int)), (105, .bool (lowEq r.1 n))]) ?_ ?_
          · -- region 15
            refine CW.drawSt hst (.q 0 (.q 1 (.q 2 (.q 3 (.q 4 (.q 5 (.q 6 (.q 7 (.q 8 (.q 9 (.q 10 (.q 11 (.q 12 (.q 13 (.q 14 (.q 15 (.q 16 (.q 17 (.q 18 (.q 19 (.q 20 (.q 21 (.q 22 (.q 23 (.q 24 (.q 25 (.q 26 (.q 27 (.q 28 (.q 29 (.q 30 (.q 31 (.q 32 (.q 33 (.q 34 (.q 35 (.q 36 (.q 37 (.q 38 (.q 39 (.q 40 (.q 41 .nil)))))))))))))))))))))))))))))))))))))))))) follows (by kernel_rfl) (fun w hst => ?_)
            refine DRW.q rfl rfl (fun w' hF => runs_move rfl) ?_
            refine DRW.q rfl rfl (fun w' hF => runs_move rfl) ?_
            refine DRW.q rfl rfl (fun w' hF => RdL.indexAddr Try.underlying24 ti28 (by decide) rfl rfl hH (by omega)) ?_
            first
              | refine DRW.q rfl rfl (fun w' hF => runs_fieldAddr0 rfl Try.underlying28 rfl ti9 (by decide)) ?_
              | refine DRW.q rfl rfl (fun w' hF => runs_fieldAddr rfl Try.underlying28 rfl ti9 (by decide)) ?_
            refine DRW.q rfl rfl (FSt.load1 sc9 rfl (RdL.cellAdd hH (hrow_at hr2 0 (.string r.1) rfl))) ?_
            refine DRW.q rfl rfl (fun w' hF => runs_move rfl) ?_
            refine DRW.q rfl rfl (fun w' hF => runs_eqS rfl rfl) ?_
            refine DRW.q rfl rfl (fun w' hF => runs_move rfl) ?_
            refine DRW.split (t := 71) rfl (fun hb71 => ?_) (fun hb71 => ?_)
            · have hb71p := hb71
              try simp only [decide_eq_true_eq, decide_eq_false_iff_not] at hb71p
              refine DRW.q_off rfl rfl rfl rfl hb71 rfl ?_
              refine DRW.q_off rfl rfl rfl rfl hb71 rfl ?_
              refine DRW.q_off rfl rfl rfl rfl hb71 rfl ?_
              refine DRW.q_off rfl rfl rfl rfl hb71 rfl ?_
              refine DRW.q_off rfl rfl rfl rfl hb71 rfl ?_
              refine DRW.q_off rfl rfl rfl rfl hb71 rfl ?_
              refine DRW.q_off rfl rfl rfl rfl hb71 rfl ?_
              refine DRW.q_off rfl rfl rfl rfl hb71 rfl ?_
              refine DRW.q_off rfl rfl rfl rfl hb71 rfl ?_
              refine DRW.q_off rfl rfl rfl rfl hb71 rfl ?_
              refine DRW.q_undef rfl rfl rfl rfl rfl ?_
              refine DRW.q_undef rfl rfl rfl rfl rfl ?_
              refine DRW.q_undef rfl rfl rfl rfl rfl ?_
              refine DRW.q_undef rfl rfl rfl rfl rfl ?_
              refine DRW.q_undef rfl rfl rfl rfl rfl ?_
              refine DRW.q_undef rfl rfl rfl rfl rfl ?_
              refine DRW.q_undef rfl rfl rfl rfl rfl ?_
              refine DRW.q_undef rfl rfl rfl rfl rfl ?_
              refine DRW.q_undef rfl rfl rfl rfl rfl ?_
              refine DRW.q_undef rfl rfl rfl rfl rfl ?_
              refine DRW.q_undef rfl rfl rfl rfl rfl ?_
              refine DRW.q_off rfl rfl rfl rfl hb71 rfl ?_
              refine DRW.q_off rfl rfl rfl rfl hb71 rfl ?_
              refine DRW.q_undef rfl rfl rfl rfl rfl ?_
              refine DRW.q_undef rfl rfl rfl rfl rfl ?_
              refine DRW.q_undef rfl rfl rfl rfl rfl ?_
              refine DRW.q_undef rfl rfl rfl rfl rfl ?_
              refine DRW.q_undef rfl rfl rfl rfl rfl ?_
              refine DRW.q_undef rfl rfl rfl rfl rfl ?_
              refine DRW.q_undef rfl rfl rfl rfl rfl ?_
              refine DRW.q_undef rfl rfl rfl rfl rfl ?_
              refine DRW.q_undef rfl rfl rfl rfl rfl ?_
              refine DRW.q_off rfl rfl rfl rfl hb71 rfl ?_
              refine DRW.q rfl rfl (fun w' hF => runs_pick_true rfl hb71 rfl) ?_
              refine DRW.done ?_
              exact AQ.meet () hst ⟨rfl, rfl, rfl, rfl, rfl, rfl, rfl, rfl, rfl, rfl, (by unfold lowEq; first | (rw [e1 (by assumption)]; rfl) | (rw [e2 (by assumption) (by assumption)]; rfl) | (rw [e3 (by assumption) (by assumption) (by assumption)]; rfl) | (rw [← e4 (by assumption) (by assumption) (by assumption)]; rfl)), trivial⟩
            · have hb71p := hb71
              try simp only [decide_eq_true_eq, decide_eq_false_iff_not] at hb71p
              refine DRW.q_on rfl rfl rfl rfl hb71 rfl (fun w' hF => runs_move rfl) ?_
              refine DRW.q_on rfl rfl rfl rfl hb71 rfl (fun w' hF => runs_lenS Try.underlying9 rfl) ?_
              refine DRW.q_on rfl rfl rfl rfl hb71 rfl (fun w' hF => runs_move rfl) ?_
              refine DRW.q_on rfl rfl rfl rfl hb71 rfl (fun w' hF => runs_move rfl) ?_
              refine DRW.q_on rfl rfl rfl rfl hb71 rfl (fun w' hF => RdL.indexAddr Try.underlying24 ti28 (by decide) rfl rfl hH (by omega)) ?_
              first
                | refine DRW.q_on rfl rfl rfl rfl hb71 rfl (fun w' hF => runs_fieldAddr0 rfl Try.underlying28 rfl ti9 (by decide)) ?_
                | refine DRW.q_on rfl rfl rfl rfl hb71 rfl (fun w' hF => runs_fieldAddr rfl Try.underlying28 rfl ti9 (by decide)) ?_
              refine DRW.q_on rfl rfl rfl rfl hb71 rfl (FSt.load1 sc9 rfl (RdL.cellAdd hH (hrow_at hr2 0 (.string r.1) rfl))) ?_
              refine DRW.q_on rfl rfl rfl rfl hb71 rfl (fun w' hF => runs_lenS Try.underlying9 rfl) ?_
              refine DRW.q_on rfl rfl rfl rfl hb71 rfl (fun w' hF => runs_eqI rfl rfl) ?_
              refine DRW.q_on rfl rfl rfl rfl hb71 rfl (fun w' hF => runs_move rfl) ?_
              refine DRW.split (t := 81) rfl (fun hb81 => ?_) (fun hb81 => ?_)
              · have hb81p := hb81
                try simp only [decide_eq_true_eq, decide_eq_false_iff_not] at hb81p
                refine DRW.q_on rfl rfl rfl rfl hb81 rfl (fun w' hF => runs_move rfl) ?_
                refine DRW.q_on rfl rfl rfl rfl hb81 rfl (fun w' hF => runs_indexS (s := n) (k := .i64) (i := 0) Try.underlying9 rfl rfl (by omega) (by omega)) ?_
                refine DRW.q_on rfl rfl rfl rfl hb81 rfl (fun w' hF => runs_or rfl rfl) ?_
                refine DRW.q_on rfl rfl rfl rfl hb81 rfl (fun w' hF => runs_move rfl) ?_
                refine DRW.q_on rfl rfl rfl rfl hb81 rfl (fun w' hF => runs_move rfl) ?_
                refine DRW.q_on rfl rfl rfl rfl hb81 rfl (fun w' hF => RdL.indexAddr Try.underlying24 ti28 (by decide) rfl rfl hH (by omega)) ?_
                first
                  | refine DRW.q_on rfl rfl rfl rfl hb81 rfl (fun w' hF => runs_fieldAddr0 rfl Try.underlying28 rfl ti9 (by decide)) ?_
                  | refine DRW.q_on rfl rfl rfl rfl hb81 rfl (fun w' hF => runs_fieldAddr rfl Try.underlying28 rfl ti9 (by decide)) ?_
                refine DRW.q_on rfl rfl rfl rfl hb81 rfl (FSt.load1 sc9 rfl (RdL.cellAdd hH (hrow_at hr2 0 (.string r.1) rfl))) ?_
                refine DRW.q_on rfl rfl rfl rfl hb81 rfl (fun w' hF => runs_indexS (s := r.1) (k := .i64) (i := 0) Try.underlying9 rfl rfl (by omega) (by omega)) ?_
                refine DRW.q_on rfl rfl rfl rfl hb81 rfl (fun w' hF => runs_or rfl rfl) ?_
                refine DRW.q_on rfl rfl rfl rfl hb81 rfl (fun w' hF => runs_eqI rfl rfl) ?_
                refine DRW.q_on rfl rfl rfl rfl hb71 rfl (fun w' hF => runs_pick_true rfl hb81 rfl) ?_
                refine DRW.q_on rfl rfl rfl rfl hb71 rfl (fun w' hF => runs_move rfl) ?_
                refine DRW.split (t := 94) rfl (fun hb94 => ?_) (fun hb94 => ?_)
                · have hb94p := hb94
                  try simp only [decide_eq_true_eq, decide_eq_false_iff_not] at hb94p
                  refine DRW.q_on rfl rfl rfl rfl hb94 rfl (fun w' hF => runs_move rfl) ?_
                  refine DRW.q_on rfl rfl rfl rfl hb94 rfl (fun w' hF => runs_sliceS_l Try.underlying9 rfl rfl (by omega)) ?_
                  refine DRW.q_on rfl rfl rfl rfl hb94 rfl (fun w' hF => runs_move rfl) ?_
                  refine DRW.q_on rfl rfl rfl rfl hb94 rfl (fun w' hF => runs_move rfl) ?_
                  refine DRW.q_on rfl rfl rfl rfl hb94 rfl (fun w' hF => RdL.indexAddr Try.underlying24 ti28 (by decide) rfl rfl hH (by omega)) ?_
                  first
                    | refine DRW.q_on rfl rfl rfl rfl hb94 rfl (fun w' hF => runs_fieldAddr0 rfl Try.underlying28 rfl ti9 (by decide)) ?_
                    | refine DRW.q_on rfl rfl rfl rfl hb94 rfl (fun w' hF => runs_fieldAddr rfl Try.underlying28 rfl ti9 (by decide)) ?_
                  refine DRW.q_on rfl rfl rfl rfl hb94 rfl (FSt.load1 sc9 rfl (RdL.cellAdd hH (hrow_at hr2 0 (.string r.1) rfl))) ?_
                  refine DRW.q_on rfl rfl rfl rfl hb94 rfl (fun w' hF => runs_sliceS_l Try.underlying9 rfl rfl (by omega)) ?_
                  refine DRW.q_on rfl rfl rfl rfl hb94 rfl (fun w' hF => runs_eqS rfl rfl) ?_
                  refine DRW.q_on rfl rfl rfl rfl hb71 rfl (fun w' hF => runs_pick_true rfl hb94 rfl) ?_
                  refine DRW.q rfl rfl (fun w' hF => runs_pick_false rfl hb71 rfl) ?_
                  refine DRW.done ?_
                  exact AQ.meet () hst ⟨rfl, rfl, rfl, rfl, rfl, rfl, rfl, rfl, rfl, rfl, (by unfold lowEq; first | (rw [e1 (by assumption)]; rfl) | (rw [e2 (by assumption) (by assumption)]; rfl) | (rw [e3 (by assumption) (by assumption) (by assumption)]; rfl) | (rw [← e4 (by assumption) (by assumption) (by assumption)]; rfl)), trivial⟩
                · have hb94p := hb94
                  try simp only [decide_eq_true_eq, decide_eq_false_iff_not] at hb94p
                  refine DRW.q_off rfl rfl rfl rfl hb94 rfl ?_
                  refine DRW.q_off rfl rfl rfl rfl hb94 rfl ?_
                  refine DRW.q_off rfl rfl rfl rfl hb94 rfl ?_
                  refine DRW.q_off rfl rfl rfl rfl hb94 rfl ?_
                  refine DRW.q_off rfl rfl rfl rfl hb94 rfl ?_
                  refine DRW.q_off rfl rfl rfl rfl hb94 rfl ?_
                  refine DRW.q_off rfl rfl rfl rfl hb94 rfl ?_
                  refine DRW.q_off rfl rfl rfl rfl hb94 rfl ?_
                  refine DRW.q_off rfl rfl rfl rfl hb94 rfl ?_
                  refine DRW.q_on rfl rfl rfl rfl hb71 rfl (fun w' hF => runs_pick_false rfl hb94 rfl) ?_
                  refine DRW.q rfl rfl (fun w' hF => runs_pick_false rfl hb71 rfl) ?_
                  refine DRW.done ?_
                  exact AQ.meet () hst ⟨rfl, rfl, rfl, rfl, rfl, rfl, rfl, rfl, rfl, rfl, (by unfold lowEq; first | (rw [e1 (by assumption)]; rfl) | (rw [e2 (by assumption) (by assumption)]; rfl) | (rw [e3 (by assumption) (by assumption) (by assumption)]; rfl) | (rw [← e4 (by assumption) (by assumption) (by assumption)]; rfl)), trivial⟩
              · have hb81p := hb81
                try simp only [decide_eq_true_eq, decide_eq_false_iff_not] at hb81p
                refine DRW.q_off rfl rfl rfl rfl hb81 rfl ?_
                refine DRW.q_off rfl rfl rfl rfl hb81 rfl ?_
                refine DRW.q_off rfl rfl rfl rfl hb81 rfl ?_
                refine DRW.q_off rfl rfl rfl rfl hb81 rfl ?_
                refine DRW.q_off rfl rfl rfl rfl hb81 rfl ?_
                refine DRW.q_off rfl rfl rfl rfl hb81 rfl ?_
                refine DRW.q_off rfl rfl rfl rfl hb81 rfl ?_
                refine DRW.q_off rfl rfl rfl rfl hb81 rfl ?_
                refine DRW.q_off rfl rfl rfl rfl hb81 rfl ?_
                refine DRW.q_off rfl rfl rfl rfl hb81 rfl ?_
                refine DRW.q_off rfl rfl rfl rfl hb81 rfl ?_
                refine DRW.q_on rfl rfl rfl rfl hb71 rfl (fun w' hF => runs_pick_false rfl hb81 rfl) ?_
                refine DRW.q_on rfl rfl rfl rfl hb71 rfl (fun w' hF => runs_move rfl) ?_
                refine DRW.q_off rfl rfl rfl rfl rfl rfl ?_
                refine DRW.q_off rfl rfl rfl rfl rfl rfl ?_
                refine DRW.q_off rfl rfl rfl rfl rfl rfl ?_
                refine DRW.q_off rfl rfl rfl rfl rfl rfl ?_
                refine DRW.q_off rfl rfl rfl rfl rfl rfl ?_
                refine DRW.q_off rfl rfl rfl rfl rfl rfl ?_
                refine DRW.q_off rfl rfl rfl rfl rfl rfl ?_
                refine DRW.q_off rfl rfl rfl rfl rfl rfl ?_
                refine DRW.q_off rfl rfl rfl rfl rfl rfl ?_
                refine DRW.q_on rfl rfl rfl rfl hb71 rfl (fun w' hF => runs_pick_false rfl rfl rfl) ?_
                refine DRW.q rfl rfl (fun w' hF => runs_pick_false rfl hb71 rfl) ?_
                refine DRW.done ?_
                exact AQ.meet () hst ⟨rfl, rfl, rfl, rfl, rfl, rfl, rfl, rfl, rfl, rfl, (by unfold lowEq; first | (rw [e1 (by assumption)]; rfl) | (rw [e2 (by assumption) (by assumption)]; rfl) | (rw [e3 (by assumption) (by assumption) (by assumption)]; rfl) | (rw [← e4 (by assumption) (by assumption) (by assumption)]; rfl)), trivial⟩
          · rintro _ w hstn
            clear hst
            have hst := hstn
            clear hstn
            refine AQ.next ?_
            refine CW.cond rfl (fun hc105 => ?_) (fun hc105 => ?_)
            · have hcb105 := hc105
              try simp only [decide_eq_true_eq, decide_eq_false_iff_not] at hc105
              have hd2 : getH n (hs.drop p) = (r.2, true) := by rw [hdp, getH_cons, if_pos hcb105]
              -- region 16
              refine CW.region ?_
              refine RW.op1 rfl (runs_move rfl) ?_
              refine RW.op1 rfl (runs_move rfl) ?_
              refine RW.op1 rfl (RdL.indexAddr Try.underlying24 ti28 (by decide) rfl rfl hH (by omega)) ?_
              first
                | refine RW.op1 rfl (runs_fieldAddr0 rfl Try.underlying28 rfl ti9 (by decide)) ?_
                | refine RW.op1 rfl (runs_fieldAddr rfl Try.underlying28 rfl ti9 (by decide)) ?_
              refine RW.op1 rfl (runs_load1 sc9 rfl (hst.cell_imm (RdL.cellAdd hH (hrow_at hr2 1 (.string r.2) rfl)))) ?_
              refine RW.op1 rfl (runs_assign rfl) ?_
              refine RW.op1 rfl (runs_assign rfl) ?_
              refine RW.done ?_
              refine AQ.block_normal ?_
              refine AQ.next ?_
              -- region 14
              refine CW.region ?_
              refine RW.op1 rfl (runs_move rfl) ?_
              refine RW.op1 rfl (runs_sub rfl rfl (by omega)) ?_
              refine RW.op1 rfl (runs_assign rfl) ?_
              refine RW.done ?_
              exact AQ.again (x := p + 1) p ⟨hst, by omega⟩ ⟨rfl, rfl, rfl, rfl, by rw [hd2]; rfl, by rw [hd2]; rfl, rfl, rfl, rfl, rfl, trivial⟩ (by omega)
            · have hcb105 := hc105
              try simp only [decide_eq_true_eq, decide_eq_false_iff_not] at hc105
              have hd2 : getH n (hs.drop p) = getH n (hs.drop (p + 1)) := by rw [hdp, getH_cons, if_neg (by rw [hcb105]; decide)]
              refine CW.skip ?_
              refine AQ.block_normal ?_
              refine AQ.next ?_
              -- region 14
              refine CW.region ?_
              refine RW.op1 rfl (runs_move rfl) ?_
              refine RW.op1 rfl (runs_sub rfl rfl (by omega)) ?_
              refine RW.op1 rfl (runs_assign rfl) ?_
              refine RW.done ?_
              exact AQ.again (x := p + 1) p ⟨hst, by omega⟩ ⟨rfl, rfl, rfl, rfl, by rw [hd2]; rfl, by rw [hd2]; rfl, rfl, rfl, rfl, rfl, trivial⟩ (by omega)
        · have hcb61 := hc61
          try simp only [decide_eq_true_eq, decide_eq_false_iff_not] at hc61
          obtain rfl : m = 0 := by omega
          refine CW.exit ?_
          refine AQ.past_exit ?_
          refine AQ.past_exit ?_
          refine AQ.block_hit ?_
          refine AQ.next ?_
          refine CW.seq ?_
          -- region 17
          refine CW.region ?_
          refine RW.op1 rfl (runs_move rfl) ?_
          refine RW.op1 rfl (runs_move rfl) ?_
          refine RW.op1 rfl (runs_neS rfl rfl) ?_
          refine RW.op1 rfl (runs_move rfl) ?_
          have hk114 := (show (!((getH n hs).1.toList == (getH n (hs.drop 0)).1.toList)) = false by rw [List.drop_zero]; simp)
          refine RW.on_guard rfl rfl rfl rfl hk114 ?_
          refine RW.op1 rfl (runs_move rfl) ?_
          refine RW.on_guard rfl rfl rfl rfl hk114 ?_
          refine RW.op1 rfl (runs_move rfl) ?_
          refine RW.on_guard rfl rfl rfl rfl hk114 ?_
          refine RW.op1 rfl (runs_neB Try.underlying4 rfl rfl) ?_
          refine RW.op1 rfl (runs_pick_false rfl hk114 rfl) ?_
          refine RW.done ?_
          refine AQ.next ?_
          refine CW.cond rfl (fun hc => absurd hc (by rw [List.drop_zero]; simp)) (fun hc => ?_)
          refine CW.skip ?_
          refine AQ.block_normal ?_
          refine AQ.next ?_
          -- region 19
          refine CW.region ?_
          refine RW.op1 rfl (runs_add rfl rfl (by omega)) ?_
          refine RW.op1 rfl (runs_move rfl) ?_
          refine RW.done ?_
          exact AQ.again (x := (j, I8)) (j + 1, _) ⟨hle, hst, hN, hH, by omega⟩ ⟨rfl, rfl, rfl, rfl, trivial⟩ (by dsimp only; omega)
      · have hcb48 := hc48
        try simp only [decide_eq_true_eq, decide_eq_false_iff_not] at hc48
        skip
        refine CW.exit ?_
        refine AQ.past_exit ?_
        refine AQ.past_exit ?_
        refine AQ.block_hit ?_
        refine AQ.next ?_
        refine CW.seq ?_
        -- region 20
        refine CW.region ?_
        refine RW.op1 rfl (runs_move rfl) ?_
        refine RW.call rfl call9 rfl rfl (get_spec hst ⟨#[]⟩ (by decide) hH (fun r h => by have := names5_pos _ (hhs r h).1; omega) (by omega)) ?_
        rintro e w ⟨I14, hI14, rfl, hstn⟩
        clear hst
        have hst := hstn
        clear hstn
        replace hN := hN.mono hI14
        replace hH := hH.mono hI14
        replace hle := hle.trans hI14
        refine ⟨_, rfl, ?_⟩
        refine RW.op1 rfl (runs_move rfl) ?_
        refine RW.op1 rfl (runs_extract rfl rfl) ?_
        refine RW.op1 rfl (runs_extract rfl rfl) ?_
        refine RW.op1 rfl (runs_assign rfl) ?_
        refine RW.op1 rfl (runs_assign rfl) ?_
        refine RW.done ?_
        refine AQ.next ?_
        refine CW.seq ?_
        -- region 21
        refine CW.region ?_
        refine RW.op1 rfl (runs_move rfl) ?_
        refine RW.op1 rfl (runs_not rfl) ?_
        refine RW.op1 rfl (runs_move rfl) ?_
        have hk127 := (show (!(getH ⟨#[]⟩ hs).2) = true by rw [getH_empty (fun r h => (hhs r h).1)]; rfl)
        refine RW.on_guard rfl rfl rfl rfl hk127 ?_
        refine RW.call rfl call10 rfl rfl (wakes08_spec hst) ?_
        rintro e w ⟨I15, hI15, rfl, hstn⟩
        clear hst
        have hst := hstn
        clear hstn
        replace hN := hN.mono hI15
        replace hH := hH.mono hI15
        replace hle := hle.trans hI15
        refine ⟨_, rfl, ?_⟩
        refine RW.op1 rfl (runs_pick_true rfl hk127 rfl) ?_
        refine RW.op1 rfl (runs_assign rfl) ?_
        refine RW.done ?_
        refine AQ.next ?_
        refine CW.ret ?_
        refine AQ.ret1 rfl rfl ?_
        exact ⟨rfl, _, hle, hst⟩
end Go.Proofs.YtdelipmhginegaaX
