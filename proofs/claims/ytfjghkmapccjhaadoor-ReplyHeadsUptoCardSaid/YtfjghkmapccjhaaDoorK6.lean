/- The body of an answer; answers parsed, printed: what these come to. -/
import Derived.Test.YtfjghkmapccjhaaDoorT
import Derived.Test.YtfjghkmapccjhaaDoorK5
namespace Go.Proofs.YtfjghkmapccjhaaDoorX
set_option linter.unusedVariables false
set_option linter.unusedSimpArgs false
open Go Go.RowKit Go.Proofs

set_option maxRecDepth 100000 in
set_option maxHeartbeats 1000000 in
theorem body_spec {w0 w : World} {I : Imm} {L : Own} (hst : St w0 w I L) {v : Value} {hs : List HL} (hv : RdH I v (hs.map hrowL)) (hlen : hs.length ≤ 1000000) (hsz : ∀ h ∈ hs, h.1.length ≤ 9223372036854775807 ∧ h.2.length ≤ 9223372036854775807) (s : ByteArray) (hss : s.size ≤ 9223372036854775807) :
    Calls Tryd.prog 24 #[v, .string s] w fun e w' => ∃ I' b c ok, Imm.le I I' ∧ e = .returned (.tuple #[.string b, .bool c, .bool ok]) ∧ St w0 w' I' L ∧ (bodyL (toldL hs) s.toList = none ∧ ok = false ∨ ok = true ∧ bodyL (toldL hs) s.toList = some (b.toList, c) ∧ b.size ≤ s.size) := by
  have hz := size_toList s
  obtain ⟨tl, htl⟩ : ∃ tl, toldL hs = tl := ⟨_, rfl⟩
  have htz : ∀ d ∈ tl, d.length ≤ 9223372036854775807 := by
    rw [← htl]
    intro d hd
    unfold toldL at hd
    obtain ⟨h, hh, rfl⟩ := List.mem_map.1 hd
    exact (hsz h (List.mem_filter.1 hh).1).2
  have htn : tl.length ≤ 1000000 := by
    rw [← htl]
    unfold toldL
    rw [List.length_map]
    exact Nat.le_trans (List.length_filter_le ..) hlen
  rw [htl]
  refine enter Tryd.func24 rfl (N := 40) rfl rfl ?_
  simp only [List.zipIdx_cons, List.zipIdx_nil, List.map_cons, List.map_nil, Nat.zero_add, Nat.reduceAdd]
  have hle := Imm.le.refl I
  refine CW.seq ?_
  -- region 0
  refine CW.region ?_
  refine RW.op1 rfl (runs_assign rfl) ?_
  refine RW.op1 rfl (runs_assign rfl) ?_
  refine RW.op1 rfl (runs_assign rfl) ?_
  refine RW.done ?_
  refine AQ.next ?_
  refine CW.seq ?_
  -- region 1
  refine CW.region ?_
  refine RW.op1 rfl (runs_move rfl) ?_
  refine RW.call rfl call40 rfl rfl (lengths_spec hst hv hlen (fun h hh => (hsz h hh).1)) ?_
  rintro e w ⟨I1, vT, hI1, rfl, hT, hstn⟩
  clear hst
  have hst := hstn
  clear hstn
  rw [htl] at hT
  replace hle := hle.trans hI1
  refine ⟨_, rfl, ?_⟩
  refine RW.op1 rfl (runs_assign rfl) ?_
  refine RW.done ?_
  refine AQ.next ?_
  refine CW.seq ?_
  refine CW.seq ?_
  -- region 2
  refine CW.region ?_
  refine RW.op1 rfl (runs_move rfl) ?_
  refine RW.op1 rfl (RdL.len Tryd.underlying24 rfl hT) ?_
  rw [List.length_map]
  refine RW.op1 rfl (runs_eqI rfl rfl) ?_
  refine RW.done ?_
  refine AQ.next ?_
  refine CW.cond rfl (fun hc14 => ?_) (fun hc14 => ?_)
  · have hcb14 := hc14
    try simp only [decide_eq_true_eq, decide_eq_false_iff_not] at hc14
    have h0 : tl = [] := List.eq_nil_of_length_eq_zero (by omega)
    subst h0
    refine CW.seq ?_
    -- region 3
    refine CW.region ?_
    refine RW.op1 rfl (runs_move rfl) ?_
    refine RW.op1 rfl (runs_assign rfl) ?_
    refine RW.op1 rfl (runs_assign rfl) ?_
    refine RW.op1 rfl (runs_assign rfl) ?_
    refine RW.done ?_
    refine AQ.next ?_
    refine CW.ret ?_
    refine AQ.past_ret ?_
    refine AQ.retL (rs := [.tmp 4, .tmp 5, .tmp 6]) (vs := [_, _, _]) rfl ⟨rfl, rfl, rfl, trivial⟩ (by simp) ?_
    exact ⟨_, _, _, _, hle, rfl, hst, .inr ⟨rfl, rfl, Nat.le_refl _⟩⟩
  · have hcb14 := hc14
    try simp only [decide_eq_true_eq, decide_eq_false_iff_not] at hc14
    obtain ⟨d, r, rfl⟩ : ∃ d r, tl = d :: r := by
      cases tl with
      | nil => simp at hc14
      | cons d r => exact ⟨d, r, rfl⟩
    have hd := htz d (by simp)
    refine CW.skip ?_
    refine AQ.next ?_
    refine CW.seq ?_
    -- region 4
    refine CW.region ?_
    refine RW.op1 rfl (runs_move rfl) ?_
    refine RW.op1 rfl (RdL.indexAddr Tryd.underlying24 ti9 (by decide) rfl rfl hT (by rw [List.length_map, List.length_cons]; omega)) ?_
    refine RW.op1 rfl (runs_load1 sc9 rfl (hst.cell_imm (RdS.at hT (by decide) (by rw [List.length_map, List.length_cons]; omega)))) ?_
    rw [show sat (List.map strOf (d :: r)) 0 = strOf d from rfl]
    refine RW.call rfl call14 rfl rfl (number_spec hst (strOf d) (by rw [strOfZ]; exact hd)) ?_
    rintro e w ⟨rfl, hstn⟩
    clear hst
    have hst := hstn
    clear hstn
    rw [strOf_toList]
    have hnr := number_rng d
    obtain ⟨q, hq⟩ : ∃ q, numberR d = q := ⟨_, rfl⟩
    rw [hq] at hnr ⊢
    refine ⟨_, rfl, ?_⟩
    refine RW.op1 rfl (runs_move rfl) ?_
    refine RW.op1 rfl (runs_extract rfl rfl) ?_
    refine RW.op1 rfl (runs_extract rfl rfl) ?_
    refine RW.op1 rfl (runs_assign rfl) ?_
    refine RW.op1 rfl (runs_assign rfl) ?_
    refine RW.done ?_
    refine AQ.next ?_
    refine CW.seq ?_
    refine CW.seq ?_
    -- region 5
    refine CW.cut Unit (fun _ w => St w0 w I1 L) (fun _ => [(1, .string s), (8, .int .i64 (q.getD 0)), (29, .bool (decide (¬ (q.isSome = true ∧ r = []))))]) ?_ ?_
    · -- region 5
      refine CW.region ?_
      refine RW.op1 rfl (runs_move rfl) ?_
      refine RW.op1 rfl (runs_not rfl) ?_
      refine RW.op1 rfl (runs_move rfl) ?_
      refine RW.split (t := 25) rfl (fun hb25 => ?_) (fun hb25 => ?_)
      · have hb25p := hb25
        try simp only [decide_eq_true_eq, decide_eq_false_iff_not] at hb25p
        refine RW.off_guard rfl rfl rfl rfl hb25 ?_
        refine RW.off_guard rfl rfl rfl rfl hb25 ?_
        refine RW.off_guard rfl rfl rfl rfl hb25 ?_
        refine RW.op1 rfl (runs_pick_true rfl hb25 rfl) ?_
        refine RW.done ?_
        exact AQ.meet () hst ⟨rfl, rfl, boolN (by cases r <;> simp_all <;> omega), trivial⟩
      · have hb25p := hb25
        try simp only [decide_eq_true_eq, decide_eq_false_iff_not] at hb25p
        refine RW.on_guard rfl rfl rfl rfl hb25 ?_
        refine RW.op1 rfl (runs_move rfl) ?_
        refine RW.on_guard rfl rfl rfl rfl hb25 ?_
        refine RW.op1 rfl (RdL.len Tryd.underlying24 rfl hT) ?_
        rw [List.length_map]
        refine RW.on_guard rfl rfl rfl rfl hb25 ?_
        refine RW.op1 rfl (runs_gtr rfl rfl) ?_
        refine RW.op1 rfl (runs_pick_false rfl hb25 rfl) ?_
        refine RW.done ?_
        exact AQ.meet () hst ⟨rfl, rfl, boolN (by cases r <;> simp_all <;> omega), trivial⟩
    · rintro _ w hstn
      clear hst
      have hst := hstn
      clear hstn
      refine AQ.next ?_
      refine CW.cond rfl (fun hc29 => ?_) (fun hc29 => ?_)
      · have hcb29 := hc29
        try simp only [decide_eq_true_eq, decide_eq_false_iff_not] at hc29
        skip
        refine CW.seq ?_
        -- region 6
        refine CW.region ?_
        refine RW.op1 rfl (runs_assign rfl) ?_
        refine RW.op1 rfl (runs_assign rfl) ?_
        refine RW.op1 rfl (runs_assign rfl) ?_
        refine RW.done ?_
        refine AQ.next ?_
        refine CW.ret ?_
        refine AQ.past_ret ?_
        refine AQ.retL (rs := [.tmp 4, .tmp 5, .tmp 6]) (vs := [_, _, _]) rfl ⟨rfl, rfl, rfl, trivial⟩ (by simp) ?_
        have h2 : ¬ (q.isSome = true ∧ r = []) := by simpa using hc29
        refine ⟨_, _, _, _, hle, rfl, hst, .inl ⟨?_, rfl⟩⟩
        unfold bodyL
        cases r with
        | nil =>
          dsimp only
          rw [hq]
          cases q with
          | none => rfl
          | some n => exact absurd ⟨rfl, rfl⟩ h2
        | cons e r => rfl
      · have hcb29 := hc29
        try simp only [decide_eq_true_eq, decide_eq_false_iff_not] at hc29
        have h2 : q.isSome = true ∧ r = [] := by simpa using hc29
        obtain ⟨h3, rfl⟩ := h2
        obtain ⟨n, rfl⟩ : ∃ n, q = some n := Option.isSome_iff_exists.1 h3
        rw [show (some n).getD 0 = n from rfl] at hnr ⊢
        refine CW.skip ?_
        refine AQ.next ?_
        refine CW.seq ?_
        -- region 7
        refine CW.region ?_
        refine RW.op1 rfl (runs_move rfl) ?_
        refine RW.op1 rfl (runs_move rfl) ?_
        refine RW.op1 rfl (runs_move rfl) ?_
        refine RW.op1 rfl (runs_lenS Tryd.underlying9 rfl) ?_
        refine RW.op1 rfl (runs_min rfl rfl) ?_
        obtain ⟨m, hm⟩ : ∃ m : Nat, m = min n.toNat s.size := ⟨_, rfl⟩
        rw [show (if ((s.size : Nat) : Int) < n then ((s.size : Nat) : Int) else n) = (m : Int) by split <;> omega]
        refine RW.op1 rfl (runs_sliceS_h Tryd.underlying9 rfl rfl (by omega)) ?_
        rw [show s.extract 0 ((m : Int)).toNat = strOf (s.toList.take m) from by rw [extractE, show ((m : Int)).toNat = m from rfl, List.drop_zero, Nat.sub_zero]]
        refine RW.op1 rfl (runs_move rfl) ?_
        refine RW.op1 rfl (runs_lenS Tryd.underlying9 rfl) ?_
        refine RW.op1 rfl (runs_move rfl) ?_
        refine RW.op1 rfl (runs_lss rfl rfl) ?_
        refine RW.op1 rfl (runs_assign rfl) ?_
        refine RW.op1 rfl (runs_assign rfl) ?_
        refine RW.op1 rfl (runs_assign rfl) ?_
        refine RW.done ?_
        refine AQ.next ?_
        refine CW.ret ?_
        refine AQ.retL (rs := [.tmp 4, .tmp 5, .tmp 6]) (vs := [_, _, _]) rfl ⟨rfl, rfl, rfl, trivial⟩ (by simp) ?_
        refine ⟨_, _, _, _, hle, rfl, hst, .inr ⟨rfl, ?_, by rw [strOfZ, List.length_take]; omega⟩⟩
        unfold bodyL
        dsimp only
        rw [hq, strOf_toList]
        dsimp only
        rw [hz, hm]
        congr 2
        by_cases h4 : n.toNat ≤ s.size
        · rw [Nat.min_eq_left h4]
        · rw [Nat.min_eq_right (by omega), List.take_of_length_le (by omega), List.take_of_length_le (by omega)]
theorem oneL_len {l : List UInt8} {h : HL} (ho : oneL l = some h) : h.1.length ≤ 20 ∧ h.2.length ≤ 40 := by
  unfold oneL at ho
  split at ho
  · rename_i hh
    obtain ⟨_, h1, h2⟩ := hh
    obtain rfl := Option.some.inj ho
    unfold nmOk at h1
    unfold vlOk at h2
    rw [Bool.and_eq_true, decide_eq_true_eq] at h1 h2
    exact ⟨h1.1.2, h2.1⟩
  · cases ho
theorem linesL_sm : ∀ (f : Nat) (s : List UInt8) {hs : List HL} {r : List UInt8}, linesL f s = some (hs, r) → hs.length ≤ f ∧ ∀ h ∈ hs, h.1.length ≤ 20 ∧ h.2.length ≤ 40 := by
  intro f
  induction f with
  | zero =>
    intro s hs r h
    unfold linesL at h
    cases hl : lineL s with
    | none => rw [hl] at h; cases h
    | some x =>
      obtain ⟨a, b⟩ := x
      rw [hl] at h
      dsimp only at h
      split at h
      · obtain ⟨rfl, rfl⟩ := Prod.mk.inj (Option.some.inj h)
        exact ⟨Nat.zero_le _, fun h hh => by cases hh⟩
      · cases ho : oneL a with
        | none => rw [ho] at h; cases h
        | some y => rw [ho] at h; cases h
  | succ f ih =>
    intro s hs r h
    unfold linesL at h
    cases hl : lineL s with
    | none => rw [hl] at h; cases h
    | some x =>
      obtain ⟨a, b⟩ := x
      rw [hl] at h
      dsimp only at h
      split at h
      · obtain ⟨rfl, rfl⟩ := Prod.mk.inj (Option.some.inj h)
        exact ⟨Nat.zero_le _, fun h hh => by cases hh⟩
      · cases ho : oneL a with
        | none => rw [ho] at h; cases h
        | some y =>
          rw [ho] at h
          dsimp only at h
          cases hr : linesL f b with
          | none => rw [hr] at h; cases h
          | some z =>
            obtain ⟨hs', r'⟩ := z
            rw [hr, Option.map_some] at h
            obtain ⟨rfl, rfl⟩ := Prod.mk.inj (Option.some.inj h)
            obtain ⟨h1, h2⟩ := ih b hr
            refine ⟨by simpa using h1, fun h hh => ?_⟩
            rcases List.mem_cons.1 hh with rfl | hh
            · exact oneL_len ho
            · exact h2 h hh
theorem parse_none1 {s a b : List UInt8} {fd : Bool} (h : lineL s = if fd = true then some (a, b) else none) (h2 : codeL a = 0 ∨ fd = false) : parseL s = none := by
  unfold parseL
  rw [h]
  cases fd with
  | false => rfl
  | true =>
    rcases h2 with h2 | h2
    · simp only [if_true]
      rw [if_pos h2]
    · cases h2
theorem parse_some1 {s a b : List UInt8} (h : lineL s = some (a, b)) (h2 : codeL a ≠ 0) : parseL s = match linesL 8 b with
    | none => none
    | some (hs, r) => match bodyL (toldL hs) r with
      | none => none
      | some (x, c) => some ⟨codeL a, hs, x, c⟩ := by
  unfold parseL
  rw [h]
  dsimp only
  rw [if_neg h2]
  rfl
/-- What parsing gives. -/
def ParsedAs (I : Imm) (s : List UInt8) (er code : Int) (vh : Value) (body : ByteArray) (cut : Bool) : Prop :=
  parseL s = none ∧ er = 2 ∧ code = 0 ∧ vh = .slice none 0 0 ∧ body = ⟨#[]⟩ ∧ cut = false ∨
  ∃ r, parseL s = some r ∧ er = 0 ∧ code = r.code ∧ RdH I vh (r.heads.map hrowL) ∧ body = strOf r.body ∧ cut = r.cut ∧ r.heads.length ≤ 8 ∧ (∀ h ∈ r.heads, h.1.length ≤ 20 ∧ h.2.length ≤ 40) ∧ r.body.length ≤ s.length
set_option maxRecDepth 100000 in
set_option maxHeartbeats 1000000 in
theorem parse_spec {w0 w : World} {I : Imm} {L : Own} (hst : St w0 w I L) (hM : MaxK I) (s : ByteArray) (hs : s.size < 4294967281) :
    Calls Tryd.prog 9 #[.string s] w fun e w' => ∃ I' vh code body cut er, Imm.le I I' ∧ e = .returned (.tuple #[.agg #[.int .i64 code, vh, .string body, .bool cut], .int .i64 er]) ∧ St w0 w' I' L ∧ ParsedAs I' s.toList er code vh body cut := by
  have hz := size_toList s
  obtain ⟨a, b, fd, hcut, hfd, hal, hbl, hal2, hal3⟩ := cut_three s.toList
  refine enter Tryd.func9 rfl (N := 54) rfl rfl ?_
  simp only [List.zipIdx_cons, List.zipIdx_nil, List.map_cons, List.map_nil, Nat.zero_add, Nat.reduceAdd]
  have hle := Imm.le.refl I
  refine CW.seq ?_
  -- region 0
  refine CW.region ?_
  refine RW.opE rfl (runs_alloc ti29 hst) ?_
  rintro _ w ⟨b1, rfl, hstn⟩
  clear hst
  have hst := hstn
  clear hstn
  refine RW.op1 rfl (runs_assign rfl) ?_
  refine RW.done ?_
  refine AQ.next ?_
  refine CW.seq ?_
  -- region 1
  refine CW.region ?_
  refine RW.op1 rfl (runs_move rfl) ?_
  refine RW.call rfl call21 rfl rfl (cutC_spec hst hM s hs) ?_
  rintro e w ⟨rfl, hstn⟩
  clear hst
  have hst := hstn
  clear hstn
  rw [hcut]
  dsimp only
  refine ⟨_, rfl, ?_⟩
  refine RW.op1 rfl (runs_move rfl) ?_
  refine RW.op1 rfl (runs_extract rfl rfl) ?_
  refine RW.op1 rfl (runs_extract rfl rfl) ?_
  refine RW.op1 rfl (runs_extract rfl rfl) ?_
  refine RW.op1 rfl (runs_assign rfl) ?_
  refine RW.op1 rfl (runs_assign rfl) ?_
  refine RW.op1 rfl (runs_assign rfl) ?_
  refine RW.done ?_
  refine AQ.next ?_
  refine CW.seq ?_
  -- region 2
  refine CW.region ?_
  refine RW.op1 rfl (runs_move rfl) ?_
  refine RW.call rfl call22 rfl rfl (code_spec hst (strOf a) (by rw [strOfZ]; omega)) ?_
  rintro e w ⟨rfl, hstn⟩
  clear hst
  have hst := hstn
  clear hstn
  rw [strOf_toList]
  obtain ⟨c, hc⟩ : ∃ c, codeL a = c := ⟨_, rfl⟩
  rw [hc]
  refine ⟨_, rfl, ?_⟩
  refine RW.op1 rfl (runs_buildF (cells := [_, _, _, _]) bz29 rfl rfl rfl rfl rfl) ?_
  refine RW.opE rfl (runs_alloc ti29 hst) ?_
  rintro _ w ⟨b4, rfl, hstn⟩
  clear hst
  have hst := hstn
  clear hstn
  replace hst := hst.perm (List.Perm.swap _ _ _)
  first
    | refine RW.opE0 (runs_storeW ti29 rfl rfl hst (k := 0) rfl rfl rfl (NoFz.zero _) rfl) ?_
    | refine RW.opE0 (runs_storeP ti29 rfl rfl hst (k := 0) rfl rfl rfl (NoFz.zero _) rfl) ?_
    | refine RW.opE0 (runs_storeW ti29 rfl rfl hst (k := 1) rfl rfl rfl (NoFz.zero _) rfl) ?_
    | refine RW.opE0 (runs_storeP ti29 rfl rfl hst (k := 1) rfl rfl rfl (NoFz.zero _) rfl) ?_
    | refine RW.opE0 (runs_storeW ti29 rfl rfl hst (k := 2) rfl rfl rfl (NoFz.zero _) rfl) ?_
    | refine RW.opE0 (runs_storeP ti29 rfl rfl hst (k := 2) rfl rfl rfl (NoFz.zero _) rfl) ?_
  rintro w hstn
  clear hst
  have hst := hstn
  clear hstn
  try simp only [List.set_cons_zero, List.set_cons_succ] at hst
  refine RW.done ?_
  refine AQ.next ?_
  refine CW.seq ?_
  refine CW.seq ?_
  -- region 3
  refine CW.region ?_
  first
    | refine RW.op1 rfl (runs_fieldAddr0 rfl Tryd.underlying29 rfl ti3 (by decide)) ?_
    | refine RW.op1 rfl (runs_fieldAddr rfl Tryd.underlying29 rfl ti3 (by decide)) ?_
  first
    | refine RW.op1 rfl (runs_load1 sc3 rfl (hst.cell_own (k := 0) rfl rfl)) ?_
    | refine RW.op1 rfl (runs_load1 sc3 rfl (hst.cell_own (k := 1) rfl rfl)) ?_
    | refine RW.op1 rfl (runs_load1 sc3 rfl (hst.cell_own (k := 2) rfl rfl)) ?_
  refine RW.op1 rfl (runs_eqI rfl rfl) ?_
  refine RW.op1 rfl (runs_move rfl) ?_
  refine RW.split (t := 22) rfl (fun hb22 => ?_) (fun hb22 => ?_)
  · have hb22p := hb22
    try simp only [decide_eq_true_eq, decide_eq_false_iff_not] at hb22p
    refine RW.off_guard rfl rfl rfl rfl hb22 ?_
    refine RW.off_guard rfl rfl rfl rfl hb22 ?_
    refine RW.off_guard rfl rfl rfl rfl hb22 ?_
    refine RW.off_guard rfl rfl rfl rfl hb22 ?_
    refine RW.off_guard rfl rfl rfl rfl hb22 ?_
    refine RW.op1 rfl (runs_pick_true rfl hb22 rfl) ?_
    refine RW.done ?_
    refine AQ.next ?_
    skip
    refine CW.cond_true rfl ?_
    refine CW.seq ?_
    -- region 4
    refine CW.region ?_
    refine RW.op1 rfl (runs_buildF (cells := [_, _, _, _]) bz29 rfl rfl rfl rfl rfl) ?_
    first
      | refine RW.opE0 (runs_storeW ti29 rfl rfl hst (k := 0) rfl rfl rfl (NoFz.zero _) rfl) ?_
      | refine RW.opE0 (runs_storeP ti29 rfl rfl hst (k := 0) rfl rfl rfl (NoFz.zero _) rfl) ?_
      | refine RW.opE0 (runs_storeW ti29 rfl rfl hst (k := 1) rfl rfl rfl (NoFz.zero _) rfl) ?_
      | refine RW.opE0 (runs_storeP ti29 rfl rfl hst (k := 1) rfl rfl rfl (NoFz.zero _) rfl) ?_
      | refine RW.opE0 (runs_storeW ti29 rfl rfl hst (k := 2) rfl rfl rfl (NoFz.zero _) rfl) ?_
      | refine RW.opE0 (runs_storeP ti29 rfl rfl hst (k := 2) rfl rfl rfl (NoFz.zero _) rfl) ?_
    rintro w hstn
    clear hst
    have hst := hstn
    clear hstn
    try simp only [List.set_cons_zero, List.set_cons_succ] at hst
    refine RW.op1 rfl (runs_assign rfl) ?_
    refine RW.done ?_
    refine AQ.next ?_
    refine CW.ret ?_
    refine AQ.past_ret ?_
    refine AQ.retL (rs := [.cell 2 29, .tmp 3]) (vs := [_, _]) rfl ⟨⟨_, rfl, hst.loadN (vs := [_, _, _, _]) (k := 0) ag29 ti29 rfl rfl rfl⟩, rfl, trivial⟩ (by simp) ?_
    refine ⟨_, _, _, _, _, _, hle, rfl, hst.drop1.drop1, .inl ⟨?_, rfl, rfl, rfl, rfl, rfl⟩⟩
    exact parse_none1 hfd (.inl (by rw [hc]; exact hb22p))
  · have hb22p := hb22
    try simp only [decide_eq_true_eq, decide_eq_false_iff_not] at hb22p
    refine RW.on_guard rfl rfl rfl rfl hb22 ?_
    refine RW.op1 rfl (runs_move rfl) ?_
    refine RW.on_guard rfl rfl rfl rfl hb22 ?_
    refine RW.op1 rfl (runs_lenS Tryd.underlying9 rfl) ?_
    refine RW.on_guard rfl rfl rfl rfl hb22 ?_
    refine RW.op1 rfl (runs_move rfl) ?_
    refine RW.on_guard rfl rfl rfl rfl hb22 ?_
    refine RW.op1 rfl (runs_lenS Tryd.underlying9 rfl) ?_
    refine RW.on_guard rfl rfl rfl rfl hb22 ?_
    refine RW.op1 rfl (runs_eqI rfl rfl) ?_
    refine RW.op1 rfl (runs_pick_false rfl hb22 rfl) ?_
    refine RW.done ?_
    refine AQ.next ?_
    refine CW.cond rfl (fun hc28 => ?_) (fun hc28 => ?_)
    · have hcb28 := hc28
      try simp only [decide_eq_true_eq, decide_eq_false_iff_not] at hc28
      skip
      refine CW.seq ?_
      -- region 4
      refine CW.region ?_
      refine RW.op1 rfl (runs_buildF (cells := [_, _, _, _]) bz29 rfl rfl rfl rfl rfl) ?_
      first
        | refine RW.opE0 (runs_storeW ti29 rfl rfl hst (k := 0) rfl rfl rfl (NoFz.zero _) rfl) ?_
        | refine RW.opE0 (runs_storeP ti29 rfl rfl hst (k := 0) rfl rfl rfl (NoFz.zero _) rfl) ?_
        | refine RW.opE0 (runs_storeW ti29 rfl rfl hst (k := 1) rfl rfl rfl (NoFz.zero _) rfl) ?_
        | refine RW.opE0 (runs_storeP ti29 rfl rfl hst (k := 1) rfl rfl rfl (NoFz.zero _) rfl) ?_
        | refine RW.opE0 (runs_storeW ti29 rfl rfl hst (k := 2) rfl rfl rfl (NoFz.zero _) rfl) ?_
        | refine RW.opE0 (runs_storeP ti29 rfl rfl hst (k := 2) rfl rfl rfl (NoFz.zero _) rfl) ?_
      rintro w hstn
      clear hst
      have hst := hstn
      clear hstn
      try simp only [List.set_cons_zero, List.set_cons_succ] at hst
      refine RW.op1 rfl (runs_assign rfl) ?_
      refine RW.done ?_
      refine AQ.next ?_
      refine CW.ret ?_
      refine AQ.past_ret ?_
      refine AQ.retL (rs := [.cell 2 29, .tmp 3]) (vs := [_, _]) rfl ⟨⟨_, rfl, hst.loadN (vs := [_, _, _, _]) (k := 0) ag29 ti29 rfl rfl rfl⟩, rfl, trivial⟩ (by simp) ?_
      refine ⟨_, _, _, _, _, _, hle, rfl, hst.drop1.drop1, .inl ⟨?_, rfl, rfl, rfl, rfl, rfl⟩⟩
      exact parse_none1 hfd (.inr (by cases fd with
        | false => rfl
        | true => have := hal2 rfl; rw [strOfZ] at hc28; omega))
    · have hcb28 := hc28
      try simp only [decide_eq_true_eq, decide_eq_false_iff_not] at hc28
      have hfd1 : fd = true := by
        cases fd with
        | true => rfl
        | false => have := hal3 rfl; rw [strOfZ] at hc28; omega
      have hbl2 := hbl hfd1
      rw [hfd1, if_pos rfl] at hfd
      have hps := parse_some1 hfd (by rw [hc]; exact hb22p)
      rw [hc] at hps
      refine CW.skip ?_
      refine AQ.next ?_
      refine CW.seq ?_
      -- region 5
      refine CW.region ?_
      refine RW.op1 rfl (runs_move rfl) ?_
      refine RW.call rfl call23 rfl rfl (lines_spec hst hM (strOf b) (by rw [strOfZ]; omega)) ?_
      rintro e w ⟨I8, vh, rest, ok, hI8, rfl, hstn, hln⟩
      clear hst
      have hst := hstn
      clear hstn
      rw [strOf_toList] at hln
      replace hM := hM.mono hI8
      replace hle := hle.trans hI8
      refine ⟨_, rfl, ?_⟩
      refine RW.op1 rfl (runs_move rfl) ?_
      refine RW.op1 rfl (runs_extract rfl rfl) ?_
      refine RW.op1 rfl (runs_extract rfl rfl) ?_
      refine RW.op1 rfl (runs_extract rfl rfl) ?_
      refine RW.op1 rfl (runs_assign rfl) ?_
      refine RW.op1 rfl (runs_assign rfl) ?_
      refine RW.op1 rfl (runs_assign rfl) ?_
      refine RW.done ?_
      refine AQ.next ?_
      refine CW.seq ?_
      refine CW.seq ?_
      -- region 6
      refine CW.region ?_
      refine RW.op1 rfl (runs_move rfl) ?_
      refine RW.op1 rfl (runs_not rfl) ?_
      refine RW.done ?_
      refine AQ.next ?_
      refine CW.cond rfl (fun hc37 => ?_) (fun hc37 => ?_)
      · have hcb37 := hc37
        try simp only [decide_eq_true_eq, decide_eq_false_iff_not] at hc37
        have hok : ok = false := by simpa using hc37
        refine CW.seq ?_
        -- region 7
        refine CW.region ?_
        refine RW.op1 rfl (runs_buildF (cells := [_, _, _, _]) bz29 rfl rfl rfl rfl rfl) ?_
        first
          | refine RW.opE0 (runs_storeW ti29 rfl rfl hst (k := 0) rfl rfl rfl (NoFz.zero _) rfl) ?_
          | refine RW.opE0 (runs_storeP ti29 rfl rfl hst (k := 0) rfl rfl rfl (NoFz.zero _) rfl) ?_
          | refine RW.opE0 (runs_storeW ti29 rfl rfl hst (k := 1) rfl rfl rfl (NoFz.zero _) rfl) ?_
          | refine RW.opE0 (runs_storeP ti29 rfl rfl hst (k := 1) rfl rfl rfl (NoFz.zero _) rfl) ?_
          | refine RW.opE0 (runs_storeW ti29 rfl rfl hst (k := 2) rfl rfl rfl (NoFz.zero _) rfl) ?_
          | refine RW.opE0 (runs_storeP ti29 rfl rfl hst (k := 2) rfl rfl rfl (NoFz.zero _) rfl) ?_
        rintro w hstn
        clear hst
        have hst := hstn
        clear hstn
        try simp only [List.set_cons_zero, List.set_cons_succ] at hst
        refine RW.op1 rfl (runs_assign rfl) ?_
        refine RW.done ?_
        refine AQ.next ?_
        refine CW.ret ?_
        refine AQ.past_ret ?_
        refine AQ.retL (rs := [.cell 2 29, .tmp 3]) (vs := [_, _]) rfl ⟨⟨_, rfl, hst.loadN (vs := [_, _, _, _]) (k := 0) ag29 ti29 rfl rfl rfl⟩, rfl, trivial⟩ (by simp) ?_
        refine ⟨_, _, _, _, _, _, hle, rfl, hst.drop1.drop1, .inl ⟨?_, rfl, rfl, rfl, rfl, rfl⟩⟩
        rcases hln with ⟨h, _⟩ | ⟨_, _, _, h, _⟩
        · rw [hps, h]
        · rw [hok] at h; cases h
      · have hcb37 := hc37
        try simp only [decide_eq_true_eq, decide_eq_false_iff_not] at hc37
        have hok : ok = true := by simpa using hc37
        obtain ⟨hs, r, h1, hvh, rfl, hrl⟩ : ∃ hs r, linesL 8 b = some (hs, r) ∧ RdH _ vh (hs.map hrowL) ∧ rest = strOf r ∧ r.length ≤ (strOf b).size := by
          rcases hln with ⟨_, h⟩ | ⟨hs, r, h1, _, h2, h3, h4⟩
          · rw [hok] at h; cases h
          · exact ⟨hs, r, h1, h2, h3, h4⟩
        clear hln
        obtain ⟨hA, hcap, rfl⟩ : ∃ A c, vh = .slice A (hs.map hrowL).length c := by obtain ⟨_, _, A, c, e, _⟩ := hvh; exact ⟨A, c, e⟩
        obtain ⟨hsl, hsm⟩ := linesL_sm 8 b h1
        rw [h1] at hps
        dsimp only at hps
        rw [strOfZ] at hrl
        refine CW.skip ?_
        refine AQ.next ?_
        refine CW.seq ?_
        -- region 8
        refine CW.region ?_
        refine RW.op1 rfl (runs_move rfl) ?_
        first
          | refine RW.op1 rfl (runs_fieldAddr0 rfl Tryd.underlying29 rfl ti23 (by decide)) ?_
          | refine RW.op1 rfl (runs_fieldAddr rfl Tryd.underlying29 rfl ti23 (by decide)) ?_
        first
          | refine RW.opE0 (runs_store1P ti23 rfl rfl hst (k := 0) rfl rfl (NoFz.zero _) rfl) ?_
          | refine RW.opE0 (runs_store1P ti23 rfl rfl hst (k := 1) rfl rfl (NoFz.zero _) rfl) ?_
          | refine RW.opE0 (runs_store1P ti23 rfl rfl hst (k := 2) rfl rfl (NoFz.zero _) rfl) ?_
        rintro w hstn
        clear hst
        have hst := hstn
        clear hstn
        try simp only [List.set_cons_zero, List.set_cons_succ] at hst
        refine RW.done ?_
        refine AQ.next ?_
        refine CW.seq ?_
        refine CW.seq ?_
        -- region 9
        refine CW.region ?_
        refine RW.op1 rfl (runs_move rfl) ?_
        refine RW.op1 rfl (runs_move rfl) ?_
        refine RW.call rfl call24 rfl rfl (body_spec hst hvh (by omega) (fun h hh => by have := hsm h hh; omega) (strOf r) (by rw [strOfZ]; omega)) ?_
        rintro e w ⟨I11, bb, cc, ok2, hI11, rfl, hstn, hbd⟩
        clear hst
        have hst := hstn
        clear hstn
        rw [strOf_toList] at hbd
        replace hM := hM.mono hI11
        replace hvh := hvh.mono hI11
        replace hle := hle.trans hI11
        refine ⟨_, rfl, ?_⟩
        refine RW.op1 rfl (runs_move rfl) ?_
        refine RW.op1 rfl (runs_extract rfl rfl) ?_
        refine RW.op1 rfl (runs_extract rfl rfl) ?_
        refine RW.op1 rfl (runs_extract rfl rfl) ?_
        first
          | refine RW.op1 rfl (runs_fieldAddr0 rfl Tryd.underlying29 rfl ti9 (by decide)) ?_
          | refine RW.op1 rfl (runs_fieldAddr rfl Tryd.underlying29 rfl ti9 (by decide)) ?_
        first
          | refine RW.opE0 (runs_store1P ti9 rfl rfl hst (k := 0) rfl rfl (NoFz.zero _) rfl) ?_
          | refine RW.opE0 (runs_store1P ti9 rfl rfl hst (k := 1) rfl rfl (NoFz.zero _) rfl) ?_
          | refine RW.opE0 (runs_store1P ti9 rfl rfl hst (k := 2) rfl rfl (NoFz.zero _) rfl) ?_
        rintro w hstn
        clear hst
        have hst := hstn
        clear hstn
        try simp only [List.set_cons_zero, List.set_cons_succ] at hst
        first
          | refine RW.op1 rfl (runs_fieldAddr0 rfl Tryd.underlying29 rfl ti4 (by decide)) ?_
          | refine RW.op1 rfl (runs_fieldAddr rfl Tryd.underlying29 rfl ti4 (by decide)) ?_
        first
          | refine RW.opE0 (runs_store1P ti4 rfl rfl hst (k := 0) rfl rfl (NoFz.zero _) rfl) ?_
          | refine RW.opE0 (runs_store1P ti4 rfl rfl hst (k := 1) rfl rfl (NoFz.zero _) rfl) ?_
          | refine RW.opE0 (runs_store1P ti4 rfl rfl hst (k := 2) rfl rfl (NoFz.zero _) rfl) ?_
        rintro w hstn
        clear hst
        have hst := hstn
        clear hstn
        try simp only [List.set_cons_zero, List.set_cons_succ] at hst
        refine RW.op1 rfl (runs_assign rfl) ?_
        refine RW.done ?_
        refine AQ.next ?_
        refine CW.seq ?_
        -- region 10
        refine CW.region ?_
        refine RW.op1 rfl (runs_move rfl) ?_
        refine RW.op1 rfl (runs_not rfl) ?_
        refine RW.done ?_
        refine AQ.next ?_
        refine CW.cond rfl (fun hc51 => ?_) (fun hc51 => ?_)
        · have hcb51 := hc51
          try simp only [decide_eq_true_eq, decide_eq_false_iff_not] at hc51
          have hok2 : ok2 = false := by simpa using hc51
          refine CW.seq ?_
          -- region 11
          refine CW.region ?_
          refine RW.op1 rfl (runs_buildF (cells := [_, _, _, _]) bz29 rfl rfl rfl rfl rfl) ?_
          first
            | refine RW.opE0 (runs_storeW ti29 rfl rfl hst (k := 0) rfl rfl rfl (NoFz.zero _) rfl) ?_
            | refine RW.opE0 (runs_storeP ti29 rfl rfl hst (k := 0) rfl rfl rfl (NoFz.zero _) rfl) ?_
            | refine RW.opE0 (runs_storeW ti29 rfl rfl hst (k := 1) rfl rfl rfl (NoFz.zero _) rfl) ?_
            | refine RW.opE0 (runs_storeP ti29 rfl rfl hst (k := 1) rfl rfl rfl (NoFz.zero _) rfl) ?_
            | refine RW.opE0 (runs_storeW ti29 rfl rfl hst (k := 2) rfl rfl rfl (NoFz.zero _) rfl) ?_
            | refine RW.opE0 (runs_storeP ti29 rfl rfl hst (k := 2) rfl rfl rfl (NoFz.zero _) rfl) ?_
          rintro w hstn
          clear hst
          have hst := hstn
          clear hstn
          try simp only [List.set_cons_zero, List.set_cons_succ] at hst
          refine RW.op1 rfl (runs_assign rfl) ?_
          refine RW.done ?_
          refine AQ.next ?_
          refine CW.ret ?_
          refine AQ.past_ret ?_
          refine AQ.retL (rs := [.cell 2 29, .tmp 3]) (vs := [_, _]) rfl ⟨⟨_, rfl, hst.loadN (vs := [_, _, _, _]) (k := 0) ag29 ti29 rfl rfl rfl⟩, rfl, trivial⟩ (by simp) ?_
          refine ⟨_, _, _, _, _, _, hle, rfl, hst.drop1.drop1, .inl ⟨?_, rfl, rfl, rfl, rfl, rfl⟩⟩
          rcases hbd with ⟨h, _⟩ | ⟨h, _⟩
          · rw [hps, h]
          · rw [hok2] at h; cases h
        · have hcb51 := hc51
          try simp only [decide_eq_true_eq, decide_eq_false_iff_not] at hc51
          have hok2 : ok2 = true := by simpa using hc51
          refine CW.skip ?_
          refine AQ.next ?_
          refine CW.seq ?_
          -- region 12
          refine CW.region ?_
          first
            | refine RW.op1 rfl (runs_loadN (vs := [_, _, _, _]) ag29 ti29 rfl hst (k := 0) rfl rfl rfl) ?_
            | refine RW.op1 rfl (runs_loadN (vs := [_, _, _, _]) ag29 ti29 rfl hst (k := 1) rfl rfl rfl) ?_
            | refine RW.op1 rfl (runs_loadN (vs := [_, _, _, _]) ag29 ti29 rfl hst (k := 2) rfl rfl rfl) ?_
          first
            | refine RW.opE0 (runs_storeW ti29 rfl rfl hst (k := 0) rfl rfl rfl (NoFz.zero _) rfl) ?_
            | refine RW.opE0 (runs_storeP ti29 rfl rfl hst (k := 0) rfl rfl rfl (NoFz.zero _) rfl) ?_
            | refine RW.opE0 (runs_storeW ti29 rfl rfl hst (k := 1) rfl rfl rfl (NoFz.zero _) rfl) ?_
            | refine RW.opE0 (runs_storeP ti29 rfl rfl hst (k := 1) rfl rfl rfl (NoFz.zero _) rfl) ?_
            | refine RW.opE0 (runs_storeW ti29 rfl rfl hst (k := 2) rfl rfl rfl (NoFz.zero _) rfl) ?_
            | refine RW.opE0 (runs_storeP ti29 rfl rfl hst (k := 2) rfl rfl rfl (NoFz.zero _) rfl) ?_
          rintro w hstn
          clear hst
          have hst := hstn
          clear hstn
          try simp only [List.set_cons_zero, List.set_cons_succ] at hst
          refine RW.op1 rfl (runs_assign rfl) ?_
          refine RW.done ?_
          refine AQ.next ?_
          refine CW.ret ?_
          refine AQ.retL (rs := [.cell 2 29, .tmp 3]) (vs := [_, _]) rfl ⟨⟨_, rfl, hst.loadN (vs := [_, _, _, _]) (k := 0) ag29 ti29 rfl rfl rfl⟩, rfl, trivial⟩ (by simp) ?_
          refine ⟨_, _, _, _, _, _, hle, rfl, hst.drop1.drop1, .inr ?_⟩
          rcases hbd with ⟨_, h⟩ | ⟨_, h, h3⟩
          · rw [hok2] at h; cases h
          · rw [h] at hps
            refine ⟨_, hps, rfl, rfl, hvh, (strOfE bb).symm, rfl, hsl, hsm, ?_⟩
            dsimp only
            rw [strOfZ] at h3
            rw [size_toList]
            omega
end Go.Proofs.YtfjghkmapccjhaaDoorX
