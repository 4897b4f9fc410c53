/- A clone of a disk; the document's example: what these come to. -/
import Derived.Test.YtdhgbcbnkddfdaaT
import Derived.Test.YtdhgbcbnkddfdaaD4
namespace Go.Proofs.YtdhgbcbnkddfdaaX
set_option linter.unusedVariables false
set_option linter.unusedSimpArgs false
open Go Go.RowKit Go.Proofs

theorem Grow.src {w0 w : World} {I : Imm} {L : Own} {e : TypeId} {size n : Nat} {v : Value} {xs : List Value} {Lv : Own} (hg : Grow e size v n xs Lv) (hst : St w0 w I L) (hsub : ∀ p ∈ Lv, p ∈ L) : ∃ A c, v = .slice A n c ∧ (A = none → n = 0) ∧ ∀ j u, xs[j]? = some u → ∃ a, A = some a ∧ w.cell? (a.add j) = some u := by
  have hc := fun j u (hj : xs[j]? = some u) => hg.cell hst hsub hj
  obtain ⟨h1, h0, ⟨rfl, rfl, rfl⟩ | ⟨g, cap, cur, rfl, rfl, h3, h4, h5, h6⟩⟩ := hg
  · refine ⟨none, 0, rfl, fun _ => rfl, fun j u hj => ?_⟩
    have : xs = [] := List.eq_nil_of_length_eq_zero (by simpa using h1)
    subst this
    cases hj
  · exact ⟨_, cap, rfl, fun h => (by cases h), fun j u hj => ⟨_, rfl, hc j u hj⟩⟩
theorem Grow.nilq {e : TypeId} {size n : Nat} {A : Option Addr} {c : Nat} {xs : List Value} {Lv : Own} (hg : Grow e size (.slice A n c) n xs Lv) (h : A = none) : n = 0 ∧ xs = [] := by
  subst h
  obtain ⟨h1, h0, ⟨e1, rfl, rfl⟩ | ⟨g, cap, cur, e1, _⟩⟩ := hg
  · exact ⟨rfl, List.eq_nil_of_length_eq_zero (by simpa using h1)⟩
  · cases e1
theorem perm_two {α : Type} (x : α) (A B C : List α) : (x :: (A ++ (B ++ C))).Perm (x :: (B ++ (A ++ C))) := (List.perm_append_comm_assoc A B C).cons x
set_option maxRecDepth 100000 in
set_option maxHeartbeats 1000000 in
theorem cloneSec_spec {w0 w : World} {I : Imm} {L Ls : Own} (hst : St w0 w I L) {v : Value} {n : Nat} {xs : List Value} (hg : Grow 52 32 v n xs Ls) (hsub : ∀ p ∈ Ls, p ∈ L) (hn : n ≤ 1000000) :
    Calls Try.prog 25 #[v] w fun e w' => ∃ v' Lv, e = .returned v' ∧ St w0 w' I (Lv ++ L) ∧ Grow 52 32 v' n xs Lv := by
  obtain ⟨A, c, rfl, hA, hsrc0⟩ := hg.src hst hsub
  refine enter Try.func25 rfl (N := 8) rfl rfl ?_
  simp only [List.zipIdx_cons, List.zipIdx_nil, List.map_cons, List.map_nil, Nat.zero_add, Nat.reduceAdd]
  have hle := Imm.le.refl I
  refine CW.seq ?_
  -- region 0
  refine CW.region ?_
  refine RW.op1 rfl (runs_assign rfl) ?_
  refine RW.done ?_
  refine AQ.next ?_
  refine CW.seq ?_
  refine CW.seq ?_
  -- region 1
  refine CW.region ?_
  refine RW.op1 rfl (runs_move rfl) ?_
  refine RW.op1 rfl (runs_eq_nilslice Try.underlying47 rfl) ?_
  refine RW.done ?_
  refine AQ.next ?_
  refine CW.cond rfl (fun hc4 => ?_) (fun hc4 => ?_)
  · have hcb4 := hc4
    try simp only [decide_eq_true_eq, decide_eq_false_iff_not] at hc4
    refine CW.seq ?_
    -- region 2
    refine CW.region ?_
    refine RW.op1 rfl (runs_assign rfl) ?_
    refine RW.done ?_
    refine AQ.next ?_
    refine CW.ret ?_
    refine AQ.past_ret ?_
    refine AQ.ret1 rfl rfl ?_
    obtain ⟨rfl, rfl⟩ := hg.nilq (by simpa using hcb4)
    exact ⟨_, [], rfl, hst, Grow.nil _ _⟩
  · have hcb4 := hc4
    try simp only [decide_eq_true_eq, decide_eq_false_iff_not] at hc4
    refine CW.skip ?_
    refine AQ.next ?_
    refine CW.seq ?_
    -- region 3
    refine CW.region ?_
    refine RW.opE rfl (runs_litF (xs := []) Try.underlying47 ti52 (by decide) rfl rfl rfl rfl rfl hst (by decide)) ?_
    rintro u1 w ⟨Lv1, hstn, hg1⟩
    clear hst
    have hst := hstn
    clear hstn
    obtain ⟨A2, c2, he2, _, hsrc⟩ := hg.src hst (fun p hp => List.mem_append_right _ (hsub p hp))
    cases he2
    have hg5 : Grow 52 32 u1 0 [] Lv1 := hg1
    refine RW.op1 rfl (runs_move rfl) ?_
    refine RW.opE rfl (runs_appendG (news := xs) Try.underlying47 ti52 rfl (by decide) rfl rfl hst hg5 hg.1 hsrc hg.2.1 (by omega) (by unfold maxLen; omega)) ?_
    rintro u2 w ⟨Lv2, hstn, hg2⟩
    clear hst
    have hst := hstn
    clear hstn
    have hgN := hg2
    rw [List.nil_append, Nat.zero_add] at hgN
    refine RW.op1 rfl (runs_assign rfl) ?_
    refine RW.done ?_
    refine AQ.next ?_
    refine CW.ret ?_
    refine AQ.ret1 rfl rfl ?_
    exact ⟨_, _, rfl, hst, hgN⟩
set_option maxRecDepth 100000 in
set_option maxHeartbeats 1000000 in
theorem cloneWr_spec {w0 w : World} {I : Imm} {L Ls : Own} (hst : St w0 w I L) {v : Value} {n : Nat} {xs : List Value} (hg : Grow 54 33 v n xs Ls) (hsub : ∀ p ∈ Ls, p ∈ L) (hn : n ≤ 1000000) :
    Calls Try.prog 26 #[v] w fun e w' => ∃ v' Lv, e = .returned v' ∧ St w0 w' I (Lv ++ L) ∧ Grow 54 33 v' n xs Lv := by
  obtain ⟨A, c, rfl, hA, hsrc0⟩ := hg.src hst hsub
  refine enter Try.func26 rfl (N := 8) rfl rfl ?_
  simp only [List.zipIdx_cons, List.zipIdx_nil, List.map_cons, List.map_nil, Nat.zero_add, Nat.reduceAdd]
  have hle := Imm.le.refl I
  refine CW.seq ?_
  -- region 0
  refine CW.region ?_
  refine RW.op1 rfl (runs_assign rfl) ?_
  refine RW.done ?_
  refine AQ.next ?_
  refine CW.seq ?_
  refine CW.seq ?_
  -- region 1
  refine CW.region ?_
  refine RW.op1 rfl (runs_move rfl) ?_
  refine RW.op1 rfl (runs_eq_nilslice Try.underlying48 rfl) ?_
  refine RW.done ?_
  refine AQ.next ?_
  refine CW.cond rfl (fun hc4 => ?_) (fun hc4 => ?_)
  · have hcb4 := hc4
    try simp only [decide_eq_true_eq, decide_eq_false_iff_not] at hc4
    refine CW.seq ?_
    -- region 2
    refine CW.region ?_
    refine RW.op1 rfl (runs_assign rfl) ?_
    refine RW.done ?_
    refine AQ.next ?_
    refine CW.ret ?_
    refine AQ.past_ret ?_
    refine AQ.ret1 rfl rfl ?_
    obtain ⟨rfl, rfl⟩ := hg.nilq (by simpa using hcb4)
    exact ⟨_, [], rfl, hst, Grow.nil _ _⟩
  · have hcb4 := hc4
    try simp only [decide_eq_true_eq, decide_eq_false_iff_not] at hc4
    refine CW.skip ?_
    refine AQ.next ?_
    refine CW.seq ?_
    -- region 3
    refine CW.region ?_
    refine RW.opE rfl (runs_litF (xs := []) Try.underlying48 ti54 (by decide) rfl rfl rfl rfl rfl hst (by decide)) ?_
    rintro u1 w ⟨Lv1, hstn, hg1⟩
    clear hst
    have hst := hstn
    clear hstn
    obtain ⟨A2, c2, he2, _, hsrc⟩ := hg.src hst (fun p hp => List.mem_append_right _ (hsub p hp))
    cases he2
    have hg5 : Grow 54 33 u1 0 [] Lv1 := hg1
    refine RW.op1 rfl (runs_move rfl) ?_
    refine RW.opE rfl (runs_appendG (news := xs) Try.underlying48 ti54 rfl (by decide) rfl rfl hst hg5 hg.1 hsrc hg.2.1 (by omega) (by unfold maxLen; omega)) ?_
    rintro u2 w ⟨Lv2, hstn, hg2⟩
    clear hst
    have hst := hstn
    clear hstn
    have hgN := hg2
    rw [List.nil_append, Nat.zero_add] at hgN
    refine RW.op1 rfl (runs_assign rfl) ?_
    refine RW.done ?_
    refine AQ.next ?_
    refine CW.ret ?_
    refine AQ.ret1 rfl rfl ?_
    exact ⟨_, _, rfl, hst, hgN⟩
set_option maxRecDepth 100000 in
set_option maxHeartbeats 1000000 in
theorem dclone_spec {w0 w : World} {I : Imm} {L Ld : Own} {d : Value} {S : DS} (hd : DiskO d S Ld) (hst : St w0 w I (Ld ++ L)) (hpn : S.pend.length ≤ 1000000) :
    Calls Try.prog 19 #[d] w fun e w' => ∃ d' Ld', e = .returned d' ∧ (∃ a, d' = .pointer (some a)) ∧ St w0 w' I (Ld' ++ (Ld ++ L)) ∧ DiskO d' S Ld' := by
  obtain ⟨hb, vl, vp, Ls, Lp, rfl, hLd, hgl, hgp, hok⟩ := hd
  have hLL : Ld ++ L = (hb, .cells #[vl, vp, .int .i64 S.left, .bool S.down] 50) :: (Ls ++ (Lp ++ L)) := by rw [hLd]; simp only [List.cons_append, List.append_assoc]
  rw [hLL] at hst
  refine enter Try.func19 rfl (N := 23) rfl rfl ?_
  simp only [List.zipIdx_cons, List.zipIdx_nil, List.map_cons, List.map_nil, Nat.zero_add, Nat.reduceAdd]
  have hle := Imm.le.refl I
  refine CW.seq ?_
  -- region 0
  refine CW.region ?_
  refine RW.op1 rfl (runs_assign rfl) ?_
  refine RW.done ?_
  refine AQ.next ?_
  refine CW.seq ?_
  -- region 1
  refine CW.drawSt hst (.q 0 (.q 1 (.q 2 (.q 3 (.q 5 (.q 6 (.q 7 (.q 8 (.q 10 (.q 11 (.q 12 (.q 13 (.q 14 (.q 15 (.q 16 (.q 17 (.l 4 (.l 9 (.q 18 (.l 19 (.q 20 .nil))))))))))))))))))))) follows (by kernel_rfl) (fun w hst => ?_)
  refine DRW.q rfl rfl (fun w' hF => runs_move rfl) ?_
  refine DRW.q rfl rfl (fun w' hF => runs_nilCheck rfl) ?_
  first
    | refine DRW.q rfl rfl (fun w' hF => runs_fieldAddr0 rfl Try.underlying50 rfl ti47 (by decide)) ?_
    | refine DRW.q rfl rfl (fun w' hF => runs_fieldAddr rfl Try.underlying50 rfl ti47 (by decide)) ?_
  refine DRW.q rfl rfl (FSt.load1_own sc47 rfl (k := 0) rfl rfl) ?_
  refine DRW.q rfl rfl (fun w' hF => runs_move rfl) ?_
  refine DRW.q rfl rfl (fun w' hF => runs_nilCheck rfl) ?_
  first
    | refine DRW.q rfl rfl (fun w' hF => runs_fieldAddr0 rfl Try.underlying50 rfl ti48 (by decide)) ?_
    | refine DRW.q rfl rfl (fun w' hF => runs_fieldAddr rfl Try.underlying50 rfl ti48 (by decide)) ?_
  refine DRW.q rfl rfl (FSt.load1_own sc48 rfl (k := 0) rfl rfl) ?_
  refine DRW.q rfl rfl (fun w' hF => runs_move rfl) ?_
  refine DRW.q rfl rfl (fun w' hF => runs_nilCheck rfl) ?_
  first
    | refine DRW.q rfl rfl (fun w' hF => runs_fieldAddr0 rfl Try.underlying50 rfl ti3 (by decide)) ?_
    | refine DRW.q rfl rfl (fun w' hF => runs_fieldAddr rfl Try.underlying50 rfl ti3 (by decide)) ?_
  refine DRW.q rfl rfl (FSt.load1_own (v := .int .i64 S.left) sc3 rfl (k := 0) rfl rfl) ?_
  refine DRW.q rfl rfl (fun w' hF => runs_move rfl) ?_
  refine DRW.q rfl rfl (fun w' hF => runs_nilCheck rfl) ?_
  first
    | refine DRW.q rfl rfl (fun w' hF => runs_fieldAddr0 rfl Try.underlying50 rfl ti4 (by decide)) ?_
    | refine DRW.q rfl rfl (fun w' hF => runs_fieldAddr rfl Try.underlying50 rfl ti4 (by decide)) ?_
  refine DRW.q rfl rfl (FSt.load1_own (v := .bool S.down) sc4 rfl (k := 0) rfl rfl) ?_
  refine DRW.call rfl rfl call25 rfl rfl (cloneSec_spec hst hgl (fun p hp => by simp [hp]) (by have := hok.1; omega)) ?_
  rintro e w ⟨v1, Lv1, rfl, hstn, hg1⟩
  clear hst
  have hst := hstn
  clear hstn
  obtain ⟨A1, c1, rfl, _⟩ := hg1.src hst (fun p hp => by simp [hp])
  refine ⟨_, rfl, FSt.of hst (Imm.le.refl _) (by first | exact List.Sublist.refl _ | exact List.sublist_append_right _ _ | exact (List.sublist_append_right _ _).trans (List.sublist_append_right _ _) | exact ((List.sublist_append_right _ _).trans (List.sublist_append_right _ _)).trans (List.sublist_cons_self _ _)), ?_⟩
  refine DRW.call rfl rfl call26 rfl rfl (cloneWr_spec hst hgp (fun p hp => by simp [hp]) hpn) ?_
  rintro e w ⟨v2, Lv2, rfl, hstn, hg2⟩
  clear hst
  have hst := hstn
  clear hstn
  obtain ⟨A2, c2, rfl, _⟩ := hg2.src hst (fun p hp => by simp [hp])
  refine ⟨_, rfl, FSt.of hst (Imm.le.refl _) (by first | exact List.Sublist.refl _ | exact List.sublist_append_right _ _ | exact (List.sublist_append_right _ _).trans (List.sublist_append_right _ _) | exact ((List.sublist_append_right _ _).trans (List.sublist_append_right _ _)).trans (List.sublist_cons_self _ _)), ?_⟩
  refine DRW.q rfl rfl (fun w' hF => runs_buildF (cells := [_, _, _, _]) bz50 rfl rfl rfl rfl rfl) ?_
  refine DRW.opE rfl rfl (runs_box rfl hst) ?_
  rintro _ w ⟨b3, rfl, hstn⟩
  clear hst
  have hst := hstn
  clear hstn
  refine ⟨FSt.of hst (Imm.le.refl _) (by first | exact List.Sublist.refl _ | exact List.sublist_append_right _ _ | exact (List.sublist_append_right _ _).trans (List.sublist_append_right _ _) | exact ((List.sublist_append_right _ _).trans (List.sublist_append_right _ _)).trans (List.sublist_cons_self _ _)), ?_⟩
  refine DRW.q rfl rfl (fun w' hF => runs_assign rfl) ?_
  refine DRW.done ?_
  refine AQ.next ?_
  refine CW.ret ?_
  refine AQ.ret1 rfl rfl ?_
  obtain ⟨Ld', h1, h2⟩ := DiskO.shut (S := S) (L := Ld ++ L) (Ls := Lv1) (Lp := Lv2) (hb := b3) (vl := .slice A1 _ c1) (vp := .slice A2 _ c2) (by
    have h := hst.perm (perm_two _ Lv2 Lv1 _)
    rw [hLL]
    exact h) hg1 hg2 hok
  rw [hLL] at h1 ⊢
  exact ⟨_, Ld', rfl, ⟨_, rfl⟩, h1, h2⟩
end Go.Proofs.YtdhgbcbnkddfdaaX
