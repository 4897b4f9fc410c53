/- Sectors under unlike marks, torn over one another: what stands there is one of them, or none: the walk. -/
import Derived.Test.YtnnaplcddhjfbaaT
import Derived.Test.YtnnaplcddhjfbaaM7
import Derived.Test.YtnnaplcddhjfbaaM8
import Derived.Test.YtnnaplcddhjfbaaXD
import Derived.Test.YtnnaplcddhjfbaaXE
namespace Go.Proofs.YtnnaplcddhjfbaaX
set_option linter.unusedVariables false
set_option linter.unusedSimpArgs false
open Go Go.RowKit Go.Proofs

attribute [local simp] two_length three_length
structure TR where
  e : Int
  q : Int
  n : Int
  b : List UInt8
def TR.sec (r : TR) : List UInt8 := sealB r.e r.q 0 r.n r.b
def TR.ok (r : TR) : Prop := sealM r.e r.q 0 r.n r.b = true ∧ 1 ≤ r.e
def TR.key (r : TR) : ZKey 2 := ⟨[r.e, r.q], rfl⟩
def zr32 : List UInt8 := List.replicate 32 0
theorem TR.sec_len {r : TR} (h : r.ok) : r.sec.length = 32 := sealB_length (sealM_parts h.1).2.2.2.2.2
/-- A half of one, a half of another. -/
def Mixed (recs : List TR) (now : List UInt8) : Prop := ∃ A B, A ∈ zr32 :: recs.map TR.sec ∧ B ∈ zr32 :: recs.map TR.sec ∧ now = A.take 16 ++ B.drop 16
theorem two_pos {e : Int} (h : 1 ≤ e ∧ e < 65536) : two e ≠ [0, 0] := by
  intro h2
  have h0 : two 0 = [0, 0] := by decide
  have := two_inj (e := e) (f := 0) ⟨by omega, h.2⟩ (by decide) (h2.trans h0.symm)
  omega
theorem zeros_ahead {r : TR} (h : r.ok) : openOk (zr32.take 16 ++ r.sec.drop 16) = false := by
  cases ho : openOk (zr32.take 16 ++ r.sec.drop 16) with
  | false => rfl
  | true =>
    exfalso
    obtain ⟨a, b, ha, hb, h1, h2⟩ := openOk_ends ho
    have hp := sealM_parts h.1
    have hl := TR.sec_len h
    have e1 : (zr32.take 16 ++ r.sec.drop 16).take 5 = [0, 0, 0, 0, 0] := rfl
    have e2 : (zr32.take 16 ++ r.sec.drop 16).drop 27 = r.sec.drop 27 := by
      have h16 : (zr32.take 16).length = 16 := rfl
      rw [List.drop_append, h16, List.drop_eq_nil_of_le (by rw [h16]; decide), List.nil_append, List.drop_drop]
    rw [e1] at h1
    rw [e2] at h2
    have e3 : r.sec.drop 27 = three r.q ++ two r.e := sealB_tail hp.2.2.2.2.2
    rw [e3] at h2
    match a, ha, b, hb with
    | [a0, a1], _, [b0, b1, b2], _ =>
      simp only [List.cons_append, List.nil_append, List.cons.injEq, and_true] at h1
      obtain ⟨rfl, rfl, rfl, rfl, rfl⟩ := h1
      have h4 := congrArg (List.drop 3) h2
      have h3 : (three r.q).length = 3 := three_length _
      rw [List.drop_append, h3, List.drop_eq_nil_of_le (by rw [h3]; decide), List.nil_append] at h4
      exact two_pos ⟨h.2, hp.1.2⟩ h4
theorem mixed_ok {recs : List TR} {now : List UInt8} (hok : ∀ r ∈ recs, r.ok) (hnd : (recs.map TR.key).Nodup) (hm : Mixed recs now) (ho : openOk now = true) : now ∈ recs.map TR.sec := by
  obtain ⟨A, B, hA, hB, rfl⟩ := hm
  rcases List.mem_cons.1 hA with rfl | hA
  · rcases List.mem_cons.1 hB with rfl | hB
    · exact absurd ho (by decide)
    · obtain ⟨r, hr, rfl⟩ := List.mem_map.1 hB
      rw [zeros_ahead (hok r hr)] at ho
      cases ho
  · obtain ⟨r, hr, rfl⟩ := List.mem_map.1 hA
    rcases List.mem_cons.1 hB with rfl | hB
    · have h := zeros_not (hok r hr).1 (.inl (by have := (hok r hr).2; omega)) 16 (by decide)
      exact absurd (ho.symm.trans h) (by decide)
    · obtain ⟨s, hs, rfl⟩ := List.mem_map.1 hB
      by_cases hk : r.e = s.e ∧ r.q = s.q
      · obtain ⟨i, hi, e1⟩ := List.mem_iff_getElem.1 hr
        obtain ⟨j, hj, e2⟩ := List.mem_iff_getElem.1 hs
        have hkey : (recs.map TR.key)[i]'(by simpa using hi) = (recs.map TR.key)[j]'(by simpa using hj) := by
          rw [List.getElem_map, List.getElem_map, e1, e2]
          unfold TR.key
          simp only [hk.1, hk.2]
        have hij := (List.getElem_inj hnd).1 hkey
        subst hij
        rw [e1] at e2
        subst e2
        rw [List.take_append_drop]
        exact List.mem_map.2 ⟨r, hr, rfl⟩
      · have h := halves_not (hok r hr).1 (hok s hs).1 hk 16 (by decide)
        exact absurd (ho.symm.trans h) (by decide)
theorem Mixed.start : Mixed [] zr32 := ⟨zr32, zr32, by simp, by simp, rfl⟩
theorem mixed_len {recs : List TR} (hok : ∀ r ∈ recs, r.ok) {A : List UInt8} (hA : A ∈ zr32 :: recs.map TR.sec) : A.length = 32 := by
  rcases List.mem_cons.1 hA with rfl | hA
  · rfl
  · obtain ⟨r, hr, rfl⟩ := List.mem_map.1 hA
    exact TR.sec_len (hok r hr)
theorem Mixed.len {recs : List TR} {now : List UInt8} (hok : ∀ r ∈ recs, r.ok) (hm : Mixed recs now) : now.length = 32 := by
  obtain ⟨A, B, hA, hB, rfl⟩ := hm
  rw [List.length_append, List.length_take, List.length_drop, mixed_len hok hA, mixed_len hok hB]
  rfl
theorem Mixed.step {recs : List TR} {now : List UInt8} {r : TR} (hok : ∀ s ∈ recs, s.ok) (hr : r.ok) (hm : Mixed recs now) {c : Nat} (hc : c = 0 ∨ c = 16 ∨ c = 32) : Mixed (recs ++ [r]) (r.sec.take c ++ now.drop c) := by
  have hl := hm.len hok
  have hrl := TR.sec_len hr
  obtain ⟨A, B, hA, hB, rfl⟩ := hm
  have hal := mixed_len hok hA
  have hbl := mixed_len hok hB
  have up : ∀ X, X ∈ zr32 :: recs.map TR.sec → X ∈ zr32 :: (recs ++ [r]).map TR.sec := fun X hX => by
    rw [List.map_append]
    rcases List.mem_cons.1 hX with rfl | hX
    · simp
    · exact List.mem_cons_of_mem _ (List.mem_append_left _ hX)
  have hin : r.sec ∈ zr32 :: (recs ++ [r]).map TR.sec := by rw [List.map_append]; simp
  have h16 : (A.take 16).length = 16 := by rw [List.length_take, hal]; rfl
  rcases hc with rfl | rfl | rfl
  · exact ⟨A, B, up A hA, up B hB, by simp⟩
  · exact ⟨r.sec, B, hin, up B hB, by rw [List.drop_left' h16]⟩
  · exact ⟨r.sec, r.sec, hin, hin, by rw [List.take_append_drop, List.take_of_length_le (by omega), List.drop_eq_nil_of_le (by rw [hl]; exact Nat.le_refl _), List.append_nil]⟩
/-- The map of marks. -/
def HadR (rows : List (ZKey 2 × Value)) (recs : List TR) : Prop := ∀ k, mget rows k = if k ∈ recs.map TR.key then some (.bool true) else none
theorem HadR.start : HadR [] [] := fun k => by simp [mget]
theorem HadR.get {rows : List (ZKey 2 × Value)} {recs : List TR} (h : HadR rows recs) (k : ZKey 2) : (mget rows k).getD (.bool false) = .bool (decide (k ∈ recs.map TR.key)) := by
  rw [h k]
  by_cases hk : k ∈ recs.map TR.key
  · rw [if_pos hk, decide_eq_true hk]; rfl
  · rw [if_neg hk, decide_eq_false hk]; rfl
theorem HadR.put {rows : List (ZKey 2 × Value)} {recs : List TR} (h : HadR rows recs) (r : TR) : HadR (mput rows r.key (.bool true)) (recs ++ [r]) := fun k => by
  rw [mget_put, List.map_append]
  by_cases hk : k = r.key
  · rw [if_pos hk, if_pos (by rw [hk]; simp)]
  · rw [if_neg hk, h k]
    by_cases h2 : k ∈ recs.map TR.key
    · rw [if_pos h2, if_pos (List.mem_append_left _ h2)]
    · rw [if_neg h2, if_neg (by simp [h2, hk])]
/-- Values that read as rows of bytes. -/
def RV (I : Imm) (vs : List Value) (bss : List (List UInt8)) : Prop := vs.length = bss.length ∧ ∀ (i : Nat) (u : Value) (b : List UInt8), vs[i]? = some u → bss[i]? = some b → RdB I u b
theorem RV.nil (I : Imm) : RV I [] [] := ⟨rfl, fun i u b h => by simp at h⟩
theorem RV.mono {I I' : Imm} {vs : List Value} {bss : List (List UInt8)} (h : RV I vs bss) (hI : I.le I') : RV I' vs bss := ⟨h.1, fun i u b h1 h2 => RdL.mono hI (h.2 i u b h1 h2)⟩
theorem RV.push {I : Imm} {vs : List Value} {bss : List (List UInt8)} (h : RV I vs bss) {u : Value} {b : List UInt8} (hu : RdB I u b) : RV I (vs ++ [u]) (bss ++ [b]) := by
  refine ⟨by rw [List.length_append, List.length_append, h.1]; rfl, fun i x y hx hy => ?_⟩
  by_cases hi : i < vs.length
  · rw [List.getElem?_append_left hi] at hx
    rw [List.getElem?_append_left (by rw [← h.1]; exact hi)] at hy
    exact h.2 i x y hx hy
  · rw [List.getElem?_append_right (by omega)] at hx
    rw [List.getElem?_append_right (by rw [← h.1]; omega), ← h.1] at hy
    have hx1 := (List.getElem?_eq_some_iff.1 hx).1
    have h0 : i - vs.length = 0 := by simpa using hx1
    rw [h0] at hx hy
    cases hx; cases hy
    exact hu
theorem perm_map {α : Type} (x y : α) (A B : List α) : (x :: y :: (A ++ B)).Perm (A ++ (x :: y :: B)) := by
  have h1 : (y :: (A ++ B)).Perm (A ++ (y :: B)) := List.perm_middle.symm
  exact (h1.cons x).trans List.perm_middle.symm
theorem i64ok_wrap (n : Int) : i64ok (IntKind.i64.wrap n) := by unfold i64ok; rw [IntKind.wrap_i64]; omega
theorem mem_take_next {α : Type} [DecidableEq α] {x : α} {l : List α} {k : Nat} {y : α} (h : l[k]? = some y) : decide (x ∈ l.take (k + 1)) = (decide (x ∈ l.take k) || decide (x = y)) := by
  rw [List.take_add_one, h, Option.toList_some]
  simp [List.mem_append, Bool.decide_or]
set_option maxRecDepth 100000 in
set_option maxHeartbeats 1000000 in
theorem cut_own {w0 w : World} {I : Imm} {L : Own} (hst : St w0 w I L) {v : Value} {bs : List UInt8} (hv : RdB I v bs) {n : Int} (hn : 0 ≤ n ∧ n ≤ 140737488355328) :
    Calls Try.prog 13 #[v, .int .i64 n] w fun e w' => ∃ v' Lv, e = .returned v' ∧ St w0 w' I (Lv ++ L) ∧ GrowB 5 v' (bs.take n.toNat) Lv := by
  refine enter Try.func13 rfl (N := 12) rfl rfl ?_
  simp only [List.zipIdx_cons, List.zipIdx_nil, List.map_cons, List.map_nil, Nat.zero_add, Nat.reduceAdd]
  have hle := Imm.le.refl I
  refine CW.seq ?_
  -- region 0
  refine CW.region ?_
  refine RW.op1 rfl (runs_assign rfl) ?_
  refine RW.done ?_
  refine AQ.next ?_
  refine CW.seq ?_
  -- region 1
  refine CW.region ?_
  refine RW.op1 rfl (runs_move rfl) ?_
  refine RW.op1 rfl (runs_move rfl) ?_
  first
    | refine RW.op1 rfl (RdL.len Try.underlying22 rfl (by assumption)) ?_
    | refine RW.op1 rfl (runs_lenL Try.underlying22 rfl) ?_
    | refine RW.op1 rfl (Grow.len Try.underlying22 rfl (by assumption)) ?_
  refine RW.op1 rfl (runs_move rfl) ?_
  refine RW.op1 rfl (runs_min rfl rfl) ?_
  have hm : (if n < (bs.length : Int) then n else (bs.length : Int)).toNat ≤ bs.length ∧ 0 ≤ (if n < (bs.length : Int) then n else (bs.length : Int)) ∧ (if n < (bs.length : Int) then n else (bs.length : Int)) ≤ bs.length := by split <;> omega
  generalize hq : (if n < (bs.length : Int) then n else (bs.length : Int)) = q at *
  have hp := RdB.part hv (lo := 0) (hi := q.toNat) (Nat.zero_le _) hm.1
  refine RW.op1 rfl (RdL.slice_h Try.underlying22 ti5 rfl rfl (by assumption) (by omega)) ?_
  refine RW.call rfl call16 rfl rfl (copy_own hst hp (by rw [List.length_take]; omega)) ?_
  rintro e w ⟨v1, Lv1, rfl, hstn, h1⟩
  clear hst
  have hst := hstn
  clear hstn
  refine ⟨_, rfl, ?_⟩
  refine RW.op1 rfl (runs_assign rfl) ?_
  refine RW.done ?_
  refine AQ.next ?_
  refine CW.ret ?_
  refine AQ.ret1 rfl rfl ?_
  refine ⟨v1, Lv1, rfl, hst, ?_⟩
  have : (bs.drop 0).take (q.toNat - 0) = bs.take n.toNat := by
    rw [List.drop_zero, Nat.sub_zero]
    rw [← hq]
    split
    · rfl
    · rw [List.take_of_length_le (by omega), List.take_of_length_le (by omega)]
  rw [← this]
  exact h1
theorem Imm.le.mono {I I' I'' : Imm} (h : I.le I') (h2 : I'.le I'') : I.le I'' := h.trans h2
theorem iat_mem {xs : List Int} {k : Nat} (hk : k < xs.length) : iat xs (k : Int) ∈ xs := by
  have : iat xs (k : Int) = xs[k] := by unfold iat; simp [hk]
  rw [this]
  exact List.getElem_mem _
theorem boolE {b : Bool} {P : Prop} [Decidable P] (h : b = true ↔ P) : some (Value.bool b) = some (Value.bool (decide P)) := by
  congr 2
  cases b
  · rw [decide_eq_false (fun hp => by cases h.2 hp)]
  · rw [decide_eq_true (h.1 rfl)]
set_option maxRecDepth 100000 in
set_option maxHeartbeats 1000000 in
theorem mtears_spec {w0 w : World} {I : Imm} {L : Own} (hst : St w0 w I L) {ve vq vc vb : Value} {es qs cs : List Int} {bs : List UInt8} (he : RdI I ve es) (hq : RdI I vq qs) (hc : RdI I vc cs) (hb : RdB I vb bs) (hes : ∀ x ∈ es, i64ok x) (hqs : ∀ x ∈ qs, i64ok x) (hcs : ∀ x ∈ cs, i64ok x) :
    Calls Try.prog 7 #[ve, vq, vc, vb] w fun e w' => e = .returned (.bool true) ∧ ∃ I', I.le I' ∧ St w0 w' I' L := by
  refine enter Try.func7 rfl (N := 160) rfl rfl ?_
  simp only [List.zipIdx_cons, List.zipIdx_nil, List.map_cons, List.map_nil, Nat.zero_add, Nat.reduceAdd]
  have hle := Imm.le.refl I
  refine CW.seq ?_
  -- region 0
  refine CW.region ?_
  refine RW.op1 rfl (runs_assign rfl) ?_
  refine RW.done ?_
  refine AQ.next ?_
  refine CW.seq ?_
  -- region 1
  refine CW.region ?_
  refine RW.op1 rfl (runs_assign rfl) ?_
  refine RW.done ?_
  refine AQ.next ?_
  refine CW.seq ?_
  -- region 2
  refine CW.region ?_
  refine RW.opE rfl (runs_makeSlice (n := 32) Try.underlying22 ti5 rfl hst (by omega) (by unfold maxLen; omega)) ?_
  rintro _ w ⟨bz, rfl, hstn⟩
  clear hst
  have hst := hstn
  clear hstn
  rw [made_b8] at hst
  obtain ⟨Iz, hIz, hstn, hz⟩ := RdB.of_block (n := 32) (by simp) hst (by unfold maxLen; omega)
  clear hst
  have hst := hstn
  clear hstn
  replace hle := hle.trans hIz
  refine RW.op1 rfl (runs_assign rfl) ?_
  refine RW.done ?_
  refine AQ.next ?_
  refine CW.seq ?_
  -- region 3
  refine CW.region ?_
  refine RW.op1 rfl (runs_assign rfl) ?_
  refine RW.done ?_
  refine AQ.next ?_
  refine CW.seq ?_
  -- region 4
  refine CW.region ?_
  refine RW.opE rfl (runs_makeMap hst) ?_
  rintro _ w ⟨bm, rfl, hstn⟩
  clear hst
  have hst := hstn
  clear hstn
  refine RW.op1 rfl (runs_assign rfl) ?_
  refine RW.done ?_
  refine AQ.next ?_
  refine CW.seq ?_
  refine CW.seq ?_
  -- region 5
  refine CW.region ?_
  refine RW.op1 rfl (runs_assign rfl) ?_
  refine RW.done ?_
  refine AQ.next ?_
  refine CW.block ?_
  -- loop 1
  refine CW.loop (Nat × Imm × Value × List UInt8 × Value × Own × Obj × List (ZKey 2 × Value) × List TR × List Value) (fun x w => I.le x.2.1 ∧ St w0 w x.2.1 ((bm, x.2.2.2.2.2.2.1) :: (x.2.2.2.2.2.1 ++ L)) ∧ RdB x.2.1 x.2.2.1 x.2.2.2.1 ∧ Grow 22 1 x.2.2.2.2.1 x.2.2.2.2.2.2.2.2.2.length x.2.2.2.2.2.2.2.2.2 x.2.2.2.2.2.1 ∧ MapR (ZKey.v (n := 2)) x.2.2.2.2.2.2.1 x.2.2.2.2.2.2.2.1 ∧ HadR x.2.2.2.2.2.2.2.1 x.2.2.2.2.2.2.2.2.1 ∧ RV x.2.1 x.2.2.2.2.2.2.2.2.2 (x.2.2.2.2.2.2.2.2.1.map TR.sec) ∧ (∀ r ∈ x.2.2.2.2.2.2.2.2.1, r.ok) ∧ (x.2.2.2.2.2.2.2.2.1.map TR.key).Nodup ∧ Mixed x.2.2.2.2.2.2.2.2.1 x.2.2.2.1 ∧ x.1 ≤ 6 ∧ x.2.2.2.2.2.2.2.2.1.length ≤ x.1) (fun x => [(0, ve), (1, vq), (2, vc), (3, vb), (9, .func (.func 10) #[] #[]), (10, x.2.2.1), (11, x.2.2.2.2.1), (12, .map (some bm)), (13, .int .i64 (x.1 : Int))]) (fun x => 6 - x.1) ⟨(0, _, _, _, _, [], _, [], [], []), ⟨hle, hst, hz, Grow.nil _ 1, MapR.empty _, HadR.start, RV.nil _, by simp, List.nodup_nil, Mixed.start, Nat.zero_le _, Nat.le_refl _⟩, ⟨rfl, rfl, rfl, rfl, rfl, rfl, rfl, rfl, rfl, trivial⟩⟩ ?_
  clear hz hle
  rintro ⟨i, J, vn, now, vm, Lm, o, rows, recs, vs⟩ w ⟨hle, hstn, hnow, hgm, hmr, hhad, hrv, hok, hnd, hmix, hi6, hrl⟩
  dsimp only at hle hstn hnow hgm hmr hhad hrv hok hnd hmix hi6 hrl ⊢
  clear hst
  have hst := hstn
  clear hstn
  have he5 := RdL.mono hle he
  have hq5 := RdL.mono hle hq
  have hc5 := RdL.mono hle hc
  have hb5 := RdL.mono hle hb
  have hJ := Imm.le.refl J
  have hvl : vs.length = recs.length := by rw [hrv.1, List.length_map]
  refine CW.seq ?_
  refine CW.seq ?_
  -- region 6
  refine CW.cut Unit (fun _ w => St w0 w J ((bm, o) :: (Lm ++ L))) (fun _ => [(0, ve), (1, vq), (2, vc), (3, vb), (9, .func (.func 10) #[] #[]), (10, vn), (11, vm), (12, .map (some bm)), (13, .int .i64 (i : Int)), (48, .bool (decide (i < es.length ∧ i < qs.length ∧ i < cs.length ∧ i < 6)))]) ?_ ?_
  · -- region 6
    refine CW.region ?_
    refine RW.op1 rfl (runs_move rfl) ?_
    refine RW.op1 rfl (runs_move rfl) ?_
    refine RW.op1 rfl (RdL.len Try.underlying37 rfl he5) ?_
    refine RW.op1 rfl (runs_lss rfl rfl) ?_
    refine RW.op1 rfl (runs_move rfl) ?_
    refine RW.split (t := 33) rfl (fun hb33 => ?_) (fun hb33 => ?_)
    · have hb33p := hb33
      try simp only [decide_eq_true_eq, decide_eq_false_iff_not] at hb33p
      refine RW.on_guard rfl rfl rfl rfl hb33 ?_
      refine RW.op1 rfl (runs_move rfl) ?_
      refine RW.on_guard rfl rfl rfl rfl hb33 ?_
      refine RW.op1 rfl (runs_move rfl) ?_
      refine RW.on_guard rfl rfl rfl rfl hb33 ?_
      refine RW.op1 rfl (RdL.len Try.underlying37 rfl hq5) ?_
      refine RW.on_guard rfl rfl rfl rfl hb33 ?_
      refine RW.op1 rfl (runs_lss rfl rfl) ?_
      refine RW.op1 rfl (runs_pick_true rfl hb33 rfl) ?_
      refine RW.op1 rfl (runs_move rfl) ?_
      refine RW.split (t := 39) rfl (fun hb39 => ?_) (fun hb39 => ?_)
      · have hb39p := hb39
        try simp only [decide_eq_true_eq, decide_eq_false_iff_not] at hb39p
        refine RW.on_guard rfl rfl rfl rfl hb39 ?_
        refine RW.op1 rfl (runs_move rfl) ?_
        refine RW.on_guard rfl rfl rfl rfl hb39 ?_
        refine RW.op1 rfl (runs_move rfl) ?_
        refine RW.on_guard rfl rfl rfl rfl hb39 ?_
        refine RW.op1 rfl (RdL.len Try.underlying37 rfl hc5) ?_
        refine RW.on_guard rfl rfl rfl rfl hb39 ?_
        refine RW.op1 rfl (runs_lss rfl rfl) ?_
        refine RW.op1 rfl (runs_pick_true rfl hb39 rfl) ?_
        refine RW.op1 rfl (runs_move rfl) ?_
        refine RW.split (t := 45) rfl (fun hb45 => ?_) (fun hb45 => ?_)
        · have hb45p := hb45
          try simp only [decide_eq_true_eq, decide_eq_false_iff_not] at hb45p
          refine RW.on_guard rfl rfl rfl rfl hb45 ?_
          refine RW.op1 rfl (runs_move rfl) ?_
          refine RW.on_guard rfl rfl rfl rfl hb45 ?_
          refine RW.op1 rfl (runs_lss rfl rfl) ?_
          refine RW.op1 rfl (runs_pick_true rfl hb45 rfl) ?_
          refine RW.done ?_
          exact AQ.meet () hst ⟨rfl, rfl, rfl, rfl, rfl, rfl, rfl, rfl, rfl, boolE (by simp only [decide_eq_true_eq, true_iff, Bool.false_eq_true, false_iff]; omega), trivial⟩
        · have hb45p := hb45
          try simp only [decide_eq_true_eq, decide_eq_false_iff_not] at hb45p
          refine RW.off_guard rfl rfl rfl rfl hb45 ?_
          refine RW.off_guard rfl rfl rfl rfl hb45 ?_
          refine RW.op1 rfl (runs_pick_false rfl hb45 rfl) ?_
          refine RW.done ?_
          exact AQ.meet () hst ⟨rfl, rfl, rfl, rfl, rfl, rfl, rfl, rfl, rfl, boolE (by simp only [decide_eq_true_eq, true_iff, Bool.false_eq_true, false_iff]; omega), trivial⟩
      · have hb39p := hb39
        try simp only [decide_eq_true_eq, decide_eq_false_iff_not] at hb39p
        refine RW.off_guard rfl rfl rfl rfl hb39 ?_
        refine RW.off_guard rfl rfl rfl rfl hb39 ?_
        refine RW.off_guard rfl rfl rfl rfl hb39 ?_
        refine RW.off_guard rfl rfl rfl rfl hb39 ?_
        refine RW.op1 rfl (runs_pick_false rfl hb39 rfl) ?_
        refine RW.op1 rfl (runs_move rfl) ?_
        refine RW.off_guard rfl rfl rfl rfl rfl ?_
        refine RW.off_guard rfl rfl rfl rfl rfl ?_
        refine RW.op1 rfl (runs_pick_false rfl rfl rfl) ?_
        refine RW.done ?_
        exact AQ.meet () hst ⟨rfl, rfl, rfl, rfl, rfl, rfl, rfl, rfl, rfl, boolE (by simp only [decide_eq_true_eq, true_iff, Bool.false_eq_true, false_iff]; omega), trivial⟩
    · have hb33p := hb33
      try simp only [decide_eq_true_eq, decide_eq_false_iff_not] at hb33p
      refine RW.off_guard rfl rfl rfl rfl hb33 ?_
      refine RW.off_guard rfl rfl rfl rfl hb33 ?_
      refine RW.off_guard rfl rfl rfl rfl hb33 ?_
      refine RW.off_guard rfl rfl rfl rfl hb33 ?_
      refine RW.op1 rfl (runs_pick_false rfl hb33 rfl) ?_
      refine RW.op1 rfl (runs_move rfl) ?_
      refine RW.off_guard rfl rfl rfl rfl rfl ?_
      refine RW.off_guard rfl rfl rfl rfl rfl ?_
      refine RW.off_guard rfl rfl rfl rfl rfl ?_
      refine RW.off_guard rfl rfl rfl rfl rfl ?_
      refine RW.op1 rfl (runs_pick_false rfl rfl rfl) ?_
      refine RW.op1 rfl (runs_move rfl) ?_
      refine RW.off_guard rfl rfl rfl rfl rfl ?_
      refine RW.off_guard rfl rfl rfl rfl rfl ?_
      refine RW.op1 rfl (runs_pick_false rfl rfl rfl) ?_
      refine RW.done ?_
      exact AQ.meet () hst ⟨rfl, rfl, rfl, rfl, rfl, rfl, rfl, rfl, rfl, boolE (by simp only [decide_eq_true_eq, true_iff, Bool.false_eq_true, false_iff]; omega), trivial⟩
  · rintro _ w hstn
    clear hst
    have hst := hstn
    clear hstn
    refine AQ.next ?_
    refine CW.cond rfl (fun hc48 => ?_) (fun hc48 => ?_)
    · have hcb48 := hc48
      try simp only [decide_eq_true_eq, decide_eq_false_iff_not] at hc48
      obtain ⟨hi1, hi2, hi3, hi6'⟩ := hc48
      have hoe : i64ok (iat es (i : Int)) := hes _ (iat_mem hi1)
      have hoq : i64ok (iat qs (i : Int)) := hqs _ (iat_mem hi2)
      have hoc : i64ok (iat cs (i : Int)) := hcs _ (iat_mem hi3)
      refine CW.skip ?_
      refine AQ.next ?_
      refine CW.seq ?_
      refine CW.block ?_
      refine CW.seq ?_
      -- region 8
      refine CW.cut (Nat × Int × Int) (fun y w => St w0 w J ((y.1, .cells #[.int .i64 y.2.1, .int .i64 y.2.2] 27) :: (bm, o) :: (Lm ++ L)) ∧ (1 ≤ y.2.1 ∧ y.2.1 ≤ 300) ∧ 1 ≤ y.2.2 ∧ y.2.2 ≤ 70000) (fun y => [(0, ve), (1, vq), (2, vc), (3, vb), (9, .func (.func 10) #[] #[]), (10, vn), (11, vm), (12, .map (some bm)), (13, .int .i64 (i : Int)), (14, .pointer (some ⟨y.1, 0, none⟩))]) ?_ ?_
      · -- region 8
        refine CW.drawSt hst (.q 0 (.q 1 (.q 2 (.q 3 (.q 4 (.q 7 (.q 8 (.q 9 (.q 10 (.q 11 (.fork (.l 5 (.q 6 (.fork (.l 12 (.q 13 (.q 14 (.l 15 (.l 16 .nil))))) (.l 15 (.l 12 (.q 13 (.q 14 (.l 16 .nil)))))))) (.l 15 (.l 5 (.q 6 (.l 12 (.q 13 (.q 14 (.l 16 .nil)))))))))))))))))) follows (by kernel_rfl) (fun w hst => ?_)
        refine DRW.q rfl rfl (fun w' hF => runs_move rfl) ?_
        refine DRW.q rfl rfl (fun w' hF => runs_move rfl) ?_
        refine DRW.q rfl rfl (fun w' hF => runs_move rfl) ?_
        refine DRW.q rfl rfl (fun w' hF => RdL.indexAddr Try.underlying37 ti3 (by decide) rfl rfl he5 (by omega)) ?_
        refine DRW.q rfl rfl (FSt.load1 sc3 rfl (RdI.at he5 (by omega) (by omega))) ?_
        refine DRW.q rfl rfl (fun w' hF => runs_move rfl) ?_
        refine DRW.q rfl rfl (fun w' hF => runs_move rfl) ?_
        refine DRW.q rfl rfl (fun w' hF => runs_move rfl) ?_
        refine DRW.q rfl rfl (fun w' hF => RdL.indexAddr Try.underlying37 ti3 (by decide) rfl rfl hq5 (by omega)) ?_
        refine DRW.q rfl rfl (FSt.load1 sc3 rfl (RdI.at hq5 (by omega) (by omega))) ?_
        refine DRW.fork ?_ ?_
        · refine DRW.call rfl rfl call10 rfl rfl (within_spec hst (v := iat es (i : Int)) (n := 300) (hoe) (by unfold i64ok; decide)) ?_
          rintro e w ⟨rfl, hstn⟩
          clear hst
          have hst := hstn
          clear hstn
          have hw56 := within_range (iat es (i : Int)) 300
          generalize hx56 : within (iat es (i : Int)) 300 = x56 at *
          refine ⟨_, rfl, FSt.of hst (Imm.le.refl _) (by first | exact (List.sublist_cons_self _ _).trans (List.sublist_append_right _ _) | exact List.Sublist.refl _ | exact List.sublist_cons_self _ _ | exact List.sublist_append_right _ _ | exact (List.sublist_cons_self _ _).trans (List.sublist_cons_self _ _) | exact (List.sublist_append_right _ _).trans (List.sublist_cons_self _ _) | simp), ?_⟩
          refine DRW.q rfl rfl (fun w' hF => runs_add rfl rfl (by omega)) ?_
          refine DRW.fork ?_ ?_
          · refine DRW.call rfl rfl call10 rfl rfl (within_spec hst (v := iat qs (i : Int)) (n := 70000) (hoq) (by unfold i64ok; decide)) ?_
            rintro e w ⟨rfl, hstn⟩
            clear hst
            have hst := hstn
            clear hstn
            have hw63 := within_range (iat qs (i : Int)) 70000
            generalize hx63 : within (iat qs (i : Int)) 70000 = x63 at *
            refine ⟨_, rfl, FSt.of hst (Imm.le.refl _) (by first | exact (List.sublist_cons_self _ _).trans (List.sublist_append_right _ _) | exact List.Sublist.refl _ | exact List.sublist_cons_self _ _ | exact List.sublist_append_right _ _ | exact (List.sublist_cons_self _ _).trans (List.sublist_cons_self _ _) | exact (List.sublist_append_right _ _).trans (List.sublist_cons_self _ _) | simp), ?_⟩
            refine DRW.q rfl rfl (fun w' hF => runs_add rfl rfl (by omega)) ?_
            refine DRW.q rfl rfl (fun w' hF => runs_buildF (cells := [_, _]) bz27 rfl rfl rfl rfl rfl) ?_
            refine DRW.opE rfl rfl (runs_alloc ti27 hst) ?_
            rintro _ w ⟨b5, rfl, hstn⟩
            clear hst
            have hst := hstn
            clear hstn
            refine ⟨FSt.of hst (Imm.le.refl _) (by first | exact (List.sublist_cons_self _ _).trans (List.sublist_append_right _ _) | exact List.Sublist.refl _ | exact List.sublist_cons_self _ _ | exact List.sublist_append_right _ _ | exact (List.sublist_cons_self _ _).trans (List.sublist_cons_self _ _) | exact (List.sublist_append_right _ _).trans (List.sublist_cons_self _ _) | simp), ?_⟩
            first
              | refine DRW.opE0 rfl (runs_storeW ti27 rfl rfl hst (k := 0) rfl rfl rfl (NoFz.zero _) rfl) ?_
              | refine DRW.opE0 rfl (runs_storeP ti27 rfl rfl hst (k := 0) rfl rfl rfl (NoFz.zero _) rfl) ?_
              | refine DRW.opE0 rfl (runs_storeW ti27 rfl rfl hst (k := 1) rfl rfl rfl (NoFz.zero _) rfl) ?_
              | refine DRW.opE0 rfl (runs_storeP ti27 rfl rfl hst (k := 1) rfl rfl rfl (NoFz.zero _) rfl) ?_
              | refine DRW.opE0 rfl (runs_storeW ti27 rfl rfl hst (k := 2) rfl rfl rfl (NoFz.zero _) rfl) ?_
              | refine DRW.opE0 rfl (runs_storeP ti27 rfl rfl hst (k := 2) rfl rfl rfl (NoFz.zero _) rfl) ?_
            rintro w hstn
            clear hst
            have hst := hstn
            clear hstn
            try simp only [List.set_cons_zero, List.set_cons_succ] at hst
            refine ⟨FSt.of hst (Imm.le.refl _) (by first | exact (List.sublist_cons_self _ _).trans (List.sublist_append_right _ _) | exact List.Sublist.refl _ | exact List.sublist_cons_self _ _ | exact List.sublist_append_right _ _ | exact (List.sublist_cons_self _ _).trans (List.sublist_cons_self _ _) | exact (List.sublist_append_right _ _).trans (List.sublist_cons_self _ _) | simp), ?_⟩
            refine DRW.done ?_
            exact AQ.meet (_, _, _) ⟨hst, by dsimp only; omega, by dsimp only; omega⟩ ⟨rfl, rfl, rfl, rfl, rfl, rfl, rfl, rfl, rfl, rfl, trivial⟩
          refine DRW.opE rfl rfl (runs_alloc ti27 hst) ?_
          rintro _ w ⟨b7, rfl, hstn⟩
          clear hst
          have hst := hstn
          clear hstn
          refine ⟨FSt.of hst (Imm.le.refl _) (by first | exact (List.sublist_cons_self _ _).trans (List.sublist_append_right _ _) | exact List.Sublist.refl _ | exact List.sublist_cons_self _ _ | exact List.sublist_append_right _ _ | exact (List.sublist_cons_self _ _).trans (List.sublist_cons_self _ _) | exact (List.sublist_append_right _ _).trans (List.sublist_cons_self _ _) | simp), ?_⟩
          refine DRW.call rfl rfl call10 rfl rfl (within_spec hst (v := iat qs (i : Int)) (n := 70000) (hoq) (by unfold i64ok; decide)) ?_
          rintro e w ⟨rfl, hstn⟩
          clear hst
          have hst := hstn
          clear hstn
          have hw63 := within_range (iat qs (i : Int)) 70000
          generalize hx63 : within (iat qs (i : Int)) 70000 = x63 at *
          refine ⟨_, rfl, FSt.of hst (Imm.le.refl _) (by first | exact (List.sublist_cons_self _ _).trans (List.sublist_append_right _ _) | exact List.Sublist.refl _ | exact List.sublist_cons_self _ _ | exact List.sublist_append_right _ _ | exact (List.sublist_cons_self _ _).trans (List.sublist_cons_self _ _) | exact (List.sublist_append_right _ _).trans (List.sublist_cons_self _ _) | simp), ?_⟩
          refine DRW.q rfl rfl (fun w' hF => runs_add rfl rfl (by omega)) ?_
          refine DRW.q rfl rfl (fun w' hF => runs_buildF (cells := [_, _]) bz27 rfl rfl rfl rfl rfl) ?_
          first
            | refine DRW.opE0 rfl (runs_storeW ti27 rfl rfl hst (k := 0) rfl rfl rfl (NoFz.zero _) rfl) ?_
            | refine DRW.opE0 rfl (runs_storeP ti27 rfl rfl hst (k := 0) rfl rfl rfl (NoFz.zero _) rfl) ?_
            | refine DRW.opE0 rfl (runs_storeW ti27 rfl rfl hst (k := 1) rfl rfl rfl (NoFz.zero _) rfl) ?_
            | refine DRW.opE0 rfl (runs_storeP ti27 rfl rfl hst (k := 1) rfl rfl rfl (NoFz.zero _) rfl) ?_
            | refine DRW.opE0 rfl (runs_storeW ti27 rfl rfl hst (k := 2) rfl rfl rfl (NoFz.zero _) rfl) ?_
            | refine DRW.opE0 rfl (runs_storeP ti27 rfl rfl hst (k := 2) rfl rfl rfl (NoFz.zero _) rfl) ?_
          rintro w hstn
          clear hst
          have hst := hstn
          clear hstn
          try simp only [List.set_cons_zero, List.set_cons_succ] at hst
          refine ⟨FSt.of hst (Imm.le.refl _) (by first | exact (List.sublist_cons_self _ _).trans (List.sublist_append_right _ _) | exact List.Sublist.refl _ | exact List.sublist_cons_self _ _ | exact List.sublist_append_right _ _ | exact (List.sublist_cons_self _ _).trans (List.sublist_cons_self _ _) | exact (List.sublist_append_right _ _).trans (List.sublist_cons_self _ _) | simp), ?_⟩
          refine DRW.done ?_
          exact AQ.meet (_, _, _) ⟨hst, by dsimp only; omega, by dsimp only; omega⟩ ⟨rfl, rfl, rfl, rfl, rfl, rfl, rfl, rfl, rfl, rfl, trivial⟩
        refine DRW.opE rfl rfl (runs_alloc ti27 hst) ?_
        rintro _ w ⟨b10, rfl, hstn⟩
        clear hst
        have hst := hstn
        clear hstn
        refine ⟨FSt.of hst (Imm.le.refl _) (by first | exact (List.sublist_cons_self _ _).trans (List.sublist_append_right _ _) | exact List.Sublist.refl _ | exact List.sublist_cons_self _ _ | exact List.sublist_append_right _ _ | exact (List.sublist_cons_self _ _).trans (List.sublist_cons_self _ _) | exact (List.sublist_append_right _ _).trans (List.sublist_cons_self _ _) | simp), ?_⟩
        refine DRW.call rfl rfl call10 rfl rfl (within_spec hst (v := iat es (i : Int)) (n := 300) (hoe) (by unfold i64ok; decide)) ?_
        rintro e w ⟨rfl, hstn⟩
        clear hst
        have hst := hstn
        clear hstn
        have hw56 := within_range (iat es (i : Int)) 300
        generalize hx56 : within (iat es (i : Int)) 300 = x56 at *
        refine ⟨_, rfl, FSt.of hst (Imm.le.refl _) (by first | exact (List.sublist_cons_self _ _).trans (List.sublist_append_right _ _) | exact List.Sublist.refl _ | exact List.sublist_cons_self _ _ | exact List.sublist_append_right _ _ | exact (List.sublist_cons_self _ _).trans (List.sublist_cons_self _ _) | exact (List.sublist_append_right _ _).trans (List.sublist_cons_self _ _) | simp), ?_⟩
        refine DRW.q rfl rfl (fun w' hF => runs_add rfl rfl (by omega)) ?_
        refine DRW.call rfl rfl call10 rfl rfl (within_spec hst (v := iat qs (i : Int)) (n := 70000) (hoq) (by unfold i64ok; decide)) ?_
        rintro e w ⟨rfl, hstn⟩
        clear hst
        have hst := hstn
        clear hstn
        have hw63 := within_range (iat qs (i : Int)) 70000
        generalize hx63 : within (iat qs (i : Int)) 70000 = x63 at *
        refine ⟨_, rfl, FSt.of hst (Imm.le.refl _) (by first | exact (List.sublist_cons_self _ _).trans (List.sublist_append_right _ _) | exact List.Sublist.refl _ | exact List.sublist_cons_self _ _ | exact List.sublist_append_right _ _ | exact (List.sublist_cons_self _ _).trans (List.sublist_cons_self _ _) | exact (List.sublist_append_right _ _).trans (List.sublist_cons_self _ _) | simp), ?_⟩
        refine DRW.q rfl rfl (fun w' hF => runs_add rfl rfl (by omega)) ?_
        refine DRW.q rfl rfl (fun w' hF => runs_buildF (cells := [_, _]) bz27 rfl rfl rfl rfl rfl) ?_
        first
          | refine DRW.opE0 rfl (runs_storeW ti27 rfl rfl hst (k := 0) rfl rfl rfl (NoFz.zero _) rfl) ?_
          | refine DRW.opE0 rfl (runs_storeP ti27 rfl rfl hst (k := 0) rfl rfl rfl (NoFz.zero _) rfl) ?_
          | refine DRW.opE0 rfl (runs_storeW ti27 rfl rfl hst (k := 1) rfl rfl rfl (NoFz.zero _) rfl) ?_
          | refine DRW.opE0 rfl (runs_storeP ti27 rfl rfl hst (k := 1) rfl rfl rfl (NoFz.zero _) rfl) ?_
          | refine DRW.opE0 rfl (runs_storeW ti27 rfl rfl hst (k := 2) rfl rfl rfl (NoFz.zero _) rfl) ?_
          | refine DRW.opE0 rfl (runs_storeP ti27 rfl rfl hst (k := 2) rfl rfl rfl (NoFz.zero _) rfl) ?_
        rintro w hstn
        clear hst
        have hst := hstn
        clear hstn
        try simp only [List.set_cons_zero, List.set_cons_succ] at hst
        refine ⟨FSt.of hst (Imm.le.refl _) (by first | exact (List.sublist_cons_self _ _).trans (List.sublist_append_right _ _) | exact List.Sublist.refl _ | exact List.sublist_cons_self _ _ | exact List.sublist_append_right _ _ | exact (List.sublist_cons_self _ _).trans (List.sublist_cons_self _ _) | exact (List.sublist_append_right _ _).trans (List.sublist_cons_self _ _) | simp), ?_⟩
        refine DRW.done ?_
        exact AQ.meet (_, _, _) ⟨hst, by dsimp only; omega, by dsimp only; omega⟩ ⟨rfl, rfl, rfl, rfl, rfl, rfl, rfl, rfl, rfl, rfl, trivial⟩
      · rintro ⟨bk, me, mq⟩ w ⟨hstn, hme, hmq⟩
        dsimp only at hstn hme hmq ⊢
        clear hst
        have hst := hstn
        clear hstn
        refine AQ.next ?_
        refine CW.seq ?_
        refine CW.seq ?_
        -- region 9
        refine CW.region ?_
        refine RW.op1 rfl (runs_move rfl) ?_
        first
          | refine RW.op1 rfl (runs_loadN (vs := [_, _]) ag27 ti27 rfl hst (k := 0) rfl rfl rfl) ?_
          | refine RW.op1 rfl (runs_loadN (vs := [_, _]) ag27 ti27 rfl hst (k := 1) rfl rfl rfl) ?_
          | refine RW.op1 rfl (runs_loadN (vs := [_, _]) ag27 ti27 rfl hst (k := 2) rfl rfl rfl) ?_
        refine RW.op1 rfl (runs_lookup (enc := ZKey.v (n := 2)) (key := (⟨[me, mq], rfl⟩ : ZKey 2)) (keyZ ez27) Try.underlying48 ti4 rfl rfl hst (i := 1) rfl hmr) ?_
        rw [HadR.get hhad (⟨[me, mq], rfl⟩ : ZKey 2)]
        refine RW.done ?_
        refine AQ.next ?_
        refine CW.cond rfl (fun hc68 => ?_) (fun hc68 => ?_)
        · have hcb68 := hc68
          try simp only [decide_eq_true_eq, decide_eq_false_iff_not] at hc68
          refine CW.exit ?_
          refine AQ.past_exit ?_
          refine AQ.block_hit ?_
          refine AQ.next ?_
          -- region 7
          refine CW.region ?_
          refine RW.op1 rfl (runs_move rfl) ?_
          refine RW.op1 rfl (runs_add rfl rfl (by omega)) ?_
          refine RW.op1 rfl (runs_assign rfl) ?_
          refine RW.done ?_
          exact AQ.again (x := (i, J, vn, now, vm, Lm, o, rows, recs, vs)) (i + 1, _, _, now, vm, Lm, o, rows, recs, vs) ⟨hle, hst.drop1, hnow, hgm, hmr, hhad, hrv, hok, hnd, hmix, by dsimp only; omega, by dsimp only; omega⟩ ⟨rfl, rfl, rfl, rfl, rfl, rfl, rfl, rfl, rfl, trivial⟩ (by dsimp only; omega)
        · have hcb68 := hc68
          try simp only [decide_eq_true_eq, decide_eq_false_iff_not] at hc68
          refine CW.skip ?_
          refine AQ.next ?_
          refine CW.seq ?_
          -- region 10
          refine CW.region ?_
          refine RW.op1 rfl (runs_move rfl) ?_
          first
            | refine RW.op1 rfl (runs_loadN (vs := [_, _]) ag27 ti27 rfl hst (k := 0) rfl rfl rfl) ?_
            | refine RW.op1 rfl (runs_loadN (vs := [_, _]) ag27 ti27 rfl hst (k := 1) rfl rfl rfl) ?_
            | refine RW.op1 rfl (runs_loadN (vs := [_, _]) ag27 ti27 rfl hst (k := 2) rfl rfl rfl) ?_
          refine RW.opE0 (runs_mapUpdate (enc := ZKey.v (n := 2)) (key := (⟨[me, mq], rfl⟩ : ZKey 2)) (v := .bool true) (keyZ ez27) Try.underlying48 rfl rfl rfl hst (i := 1) rfl hmr) ?_
          rintro w ⟨o2, hstn, hmr2⟩
          clear hst
          have hst := hstn
          clear hstn
          refine RW.done ?_
          refine AQ.next ?_
          refine CW.seq ?_
          -- region 11
          refine CW.drawSt hst (.q 0 (.q 1 (.q 2 (.q 3 (.q 4 (.q 5 (.q 6 (.q 7 (.q 8 (.q 9 (.q 10 (.l 11 (.l 12 (.q 13 .nil)))))))))))))) follows (by kernel_rfl) (fun w hst => ?_)
          refine DRW.q rfl rfl (fun w' hF => runs_move rfl) ?_
          refine DRW.q rfl rfl (fun w' hF => runs_move rfl) ?_
          refine DRW.q rfl rfl (fun w' hF => RdL.indexAddr Try.underlying37 ti3 (by decide) rfl rfl hq5 (by omega)) ?_
          refine DRW.q rfl rfl (FSt.load1 sc3 rfl (RdI.at hq5 (by omega) (by omega))) ?_
          refine DRW.q rfl rfl (fun w' hF => runs_move rfl) ?_
          refine DRW.q rfl rfl (fun w' hF => runs_addW rfl rfl) ?_
          refine DRW.q rfl rfl (fun w' hF => runs_move rfl) ?_
          refine DRW.q rfl rfl (fun w' hF => runs_move rfl) ?_
          refine DRW.q rfl rfl (fun w' hF => runs_move rfl) ?_
          refine DRW.q rfl rfl (fun w' hF => RdL.indexAddr Try.underlying37 ti3 (by decide) rfl rfl hc5 (by omega)) ?_
          refine DRW.q rfl rfl (FSt.load1 sc3 rfl (RdI.at hc5 (by omega) (by omega))) ?_
          refine DRW.call rfl rfl call10 rfl rfl (within_spec hst (v := iat cs (i : Int)) (n := 20) (hoc) (by unfold i64ok; decide)) ?_
          rintro e w ⟨rfl, hstn⟩
          clear hst
          have hst := hstn
          clear hstn
          have hw82 := within_range (iat cs (i : Int)) 20
          generalize hx82 : within (iat cs (i : Int)) 20 = x82 at *
          refine ⟨_, rfl, FSt.of hst (Imm.le.refl _) (by first | exact (List.sublist_cons_self _ _).trans (List.sublist_append_right _ _) | exact List.Sublist.refl _ | exact List.sublist_cons_self _ _ | exact List.sublist_append_right _ _ | exact (List.sublist_cons_self _ _).trans (List.sublist_cons_self _ _) | exact (List.sublist_append_right _ _).trans (List.sublist_cons_self _ _) | simp), ?_⟩
          refine DRW.call rfl rfl call14 rfl rfl (bytes_spec hst (IntKind.i64.wrap (iat qs (i : Int) + (i : Int))) x82 (i64ok_wrap _) (by omega)) ?_
          rintro e w ⟨I16, vD, hI16, rfl, hstn, hD⟩
          clear hst
          have hst := hstn
          clear hstn
          have hDl : (bytesOf (IntKind.i64.wrap (iat qs (i : Int) + (i : Int))) x82).length = x82.toNat := bytesOf_length _ _
          generalize bytesOf (IntKind.i64.wrap (iat qs (i : Int) + (i : Int))) x82 = dat at hD hDl
          replace hnow := hnow.mono hI16
          replace hJ := hJ.mono hI16
          replace hle := hle.trans hI16
          refine ⟨_, rfl, FSt.of hst hI16 (by first | exact (List.sublist_cons_self _ _).trans (List.sublist_append_right _ _) | exact List.Sublist.refl _ | exact List.sublist_cons_self _ _ | exact List.sublist_append_right _ _ | exact (List.sublist_cons_self _ _).trans (List.sublist_cons_self _ _) | exact (List.sublist_append_right _ _).trans (List.sublist_cons_self _ _) | simp), ?_⟩
          refine DRW.q rfl rfl (fun w' hF => runs_assign rfl) ?_
          refine DRW.done ?_
          refine AQ.next ?_
          refine CW.seq ?_
          -- region 12
          have hq6 := RdL.mono hJ hq5
          refine CW.drawSt hst (.q 0 (.q 1 (.q 2 (.q 5 (.q 6 (.q 7 (.q 8 (.q 9 (.q 10 (.q 13 (.q 15 (.q 16 (.q 17 (.l 3 (.q 4 (.l 11 (.l 12 (.l 14 (.q 18 (.l 19 (.q 20 (.q 21 (.q 22 (.q 23 (.q 24 .nil))))))))))))))))))))))))) follows (by kernel_rfl) (fun w hst => ?_)
          refine DRW.q rfl rfl (FSt.loadN (vs := [.int .i64 me, .int .i64 mq]) ag27 ti27 rfl (k := 0) rfl rfl rfl) ?_
          refine DRW.q rfl rfl (fun w' hF => runs_move rfl) ?_
          refine DRW.q rfl rfl (fun w' hF => runs_move rfl) ?_
          refine DRW.q rfl rfl (fun w' hF => runs_move rfl) ?_
          refine DRW.q rfl rfl (fun w' hF => runs_move rfl) ?_
          refine DRW.q rfl rfl (fun w' hF => runs_move rfl) ?_
          refine DRW.q rfl rfl (fun w' hF => runs_move rfl) ?_
          refine DRW.q rfl rfl (fun w' hF => RdL.indexAddr Try.underlying37 ti3 (by decide) rfl rfl hq6 (by omega)) ?_
          refine DRW.q rfl rfl (FSt.load1 sc3 rfl (RdI.at hq6 (by omega) (by omega))) ?_
          refine DRW.q rfl rfl (fun w' hF => runs_move rfl) ?_
          refine DRW.q rfl rfl (fun w' hF => runs_move rfl) ?_
          refine DRW.q rfl rfl (fun w' hF => RdL.len Try.underlying22 rfl hD) ?_
          refine DRW.q rfl rfl (fun w' hF => runs_min rfl rfl) ?_
          obtain ⟨mn, hmn, hmn1⟩ : ∃ m : Nat, (if (19 : Int) < (dat.length : Nat) then (19 : Int) else (dat.length : Nat)) = (m : Int) ∧ m ≤ 19 ∧ m ≤ dat.length := ⟨if 19 < dat.length then 19 else dat.length, by (repeat' split) <;> omega, by (repeat' split) <;> omega, by (repeat' split) <;> omega⟩
          rw [hmn]
          refine DRW.call rfl rfl call10 rfl rfl (within_spec hst (v := (i : Int)) (n := 3) (by unfold i64ok; omega) (by unfold i64ok; decide)) ?_
          rintro e w ⟨rfl, hstn⟩
          clear hst
          have hst := hstn
          clear hstn
          have hw88 := within_range ((i : Int)) 3
          generalize hx88 : within ((i : Int)) 3 = x88 at *
          refine ⟨_, rfl, FSt.of hst (Imm.le.refl _) (by first | exact (List.sublist_cons_self _ _).trans (List.sublist_append_right _ _) | exact List.Sublist.refl _ | exact List.sublist_cons_self _ _ | exact List.sublist_append_right _ _ | exact (List.sublist_cons_self _ _).trans (List.sublist_cons_self _ _) | exact (List.sublist_append_right _ _).trans (List.sublist_cons_self _ _) | simp), ?_⟩
          refine DRW.q rfl rfl (fun w' hF => runs_add rfl rfl (by omega)) ?_
          refine DRW.call rfl rfl call10 rfl rfl (within_spec hst (v := iat qs (i : Int)) (n := 3) (hoq) (by unfold i64ok; decide)) ?_
          rintro e w ⟨rfl, hstn⟩
          clear hst
          have hst := hstn
          clear hstn
          have hw96 := within_range (iat qs (i : Int)) 3
          generalize hx96 : within (iat qs (i : Int)) 3 = x96 at *
          refine ⟨_, rfl, FSt.of hst (Imm.le.refl _) (by first | exact (List.sublist_cons_self _ _).trans (List.sublist_append_right _ _) | exact List.Sublist.refl _ | exact List.sublist_cons_self _ _ | exact List.sublist_append_right _ _ | exact (List.sublist_cons_self _ _).trans (List.sublist_cons_self _ _) | exact (List.sublist_append_right _ _).trans (List.sublist_cons_self _ _) | simp), ?_⟩
          refine DRW.call rfl rfl call13 rfl rfl (cut_own hst (RdL.mono hJ hb5) (n := x96) (by omega)) ?_
          rintro e w ⟨vC, LC, rfl, hstn, hgC⟩
          clear hst
          have hst := hstn
          clear hstn
          have hCl : (bs.take x96.toNat).length ≤ 3 := by rw [List.length_take]; omega
          generalize bs.take x96.toNat = cutb at hgC hCl
          refine ⟨_, rfl, FSt.of hst (Imm.le.refl _) (by first | exact (List.sublist_cons_self _ _).trans (List.sublist_append_right _ _) | exact List.Sublist.refl _ | exact List.sublist_cons_self _ _ | exact List.sublist_append_right _ _ | exact (List.sublist_cons_self _ _).trans (List.sublist_cons_self _ _) | exact (List.sublist_append_right _ _).trans (List.sublist_cons_self _ _) | simp), ?_⟩
          refine DRW.opE rfl rfl (runs_appendB Try.underlying22 ti5 rfl rfl hst hgC hD (by omega)) ?_
          rintro u20 w ⟨Lv20, hstn, hg20⟩
          clear hst
          have hst := hstn
          clear hstn
          refine ⟨FSt.of hst (Imm.le.refl _) (by first | exact (List.sublist_cons_self _ _).trans (List.sublist_append_right _ _) | exact List.Sublist.refl _ | exact List.sublist_cons_self _ _ | exact List.sublist_append_right _ _ | exact (List.sublist_cons_self _ _).trans (List.sublist_cons_self _ _) | exact (List.sublist_append_right _ _).trans (List.sublist_cons_self _ _) | simp), ?_⟩
          obtain ⟨J20, hJ20, hstn, h20⟩ := Grow.freeze hg20 hst
          clear hst
          have hst := hstn
          clear hstn
          replace hnow := hnow.mono hJ20
          replace hD := hD.mono hJ20
          replace hJ := hJ.mono hJ20
          replace hle := hle.trans hJ20
          try simp only [List.nil_append] at h20
          have hA := h20
          refine DRW.q rfl rfl (fun w' hF => RdL.slice_h Try.underlying22 ti5 rfl rfl hA (by rw [List.length_append]; omega)) ?_
          refine DRW.call rfl rfl call8 rfl rfl (seal_spec hst me mq 0 (1 + x88) (RdB.part hA (lo := 0) (hi := mn) (Nat.zero_le _) (by rw [List.length_append]; omega)) (by rw [List.length_take]; omega)) ?_
          rintro e w ⟨I21, vS, hI21, rfl, hstn, hS⟩
          clear hst
          have hst := hstn
          clear hstn
          obtain ⟨bod, hbod⟩ : ∃ b, (((cutb ++ dat).drop 0).take (mn - 0)) = b := ⟨_, rfl⟩
          rw [hbod] at hS ⊢
          have hbl : bod.length ≤ 19 := by rw [← hbod, List.length_take]; omega
          have hM : sealM me mq 0 (1 + x88) bod = true := sealM_of (by omega) (by omega) (by omega) hbl
          rw [hM] at hS ⊢
          obtain ⟨r, hr⟩ : ∃ r : TR, r = ⟨me, mq, 1 + x88, bod⟩ := ⟨_, rfl⟩
          have hrok : r.ok := by rw [hr]; exact ⟨hM, hme.1⟩
          have hrk : r.key = (⟨[me, mq], rfl⟩ : ZKey 2) := by rw [hr]; rfl
          have hrs := TR.sec_len hrok
          replace hS : RdB I21 vS r.sec := by rw [hr]; exact hS
          replace hnow := hnow.mono hI21
          replace hD := hD.mono hI21
          replace hJ := hJ.mono hI21
          replace h20 := h20.mono hI21
          replace hA := hA.mono hI21
          replace hle := hle.trans hI21
          refine ⟨_, rfl, FSt.of hst (hJ20.trans hI21) (by first | exact (List.sublist_cons_self _ _).trans (List.sublist_append_right _ _) | exact List.Sublist.refl _ | exact List.sublist_cons_self _ _ | exact List.sublist_append_right _ _ | exact (List.sublist_cons_self _ _).trans (List.sublist_cons_self _ _) | exact (List.sublist_append_right _ _).trans (List.sublist_cons_self _ _) | simp), ?_⟩
          refine DRW.q rfl rfl (fun w' hF => runs_move rfl) ?_
          refine DRW.q rfl rfl (fun w' hF => runs_extract rfl rfl) ?_
          refine DRW.q rfl rfl (fun w' hF => runs_extract rfl rfl) ?_
          refine DRW.q rfl rfl (fun w' hF => runs_assign rfl) ?_
          refine DRW.q rfl rfl (fun w' hF => runs_assign rfl) ?_
          refine DRW.done ?_
          refine AQ.next ?_
          refine CW.seq ?_
          refine CW.seq ?_
          -- region 13
          refine CW.region ?_
          refine RW.op1 rfl (runs_move rfl) ?_
          refine RW.op1 rfl (runs_neI rfl rfl) ?_
          refine RW.op1 rfl (runs_move rfl) ?_
          have hk109 := (show decide ((0 : Int) ≠ 0) = false by decide)
          refine RW.on_guard rfl rfl rfl rfl hk109 ?_
          refine RW.op1 rfl (runs_move rfl) ?_
          refine RW.on_guard rfl rfl rfl rfl hk109 ?_
          refine RW.op1 rfl (RdL.len Try.underlying22 rfl hS) ?_
          refine RW.on_guard rfl rfl rfl rfl hk109 ?_
          refine RW.op1 rfl (runs_neI rfl rfl) ?_
          refine RW.op1 rfl (runs_pick_false rfl hk109 rfl) ?_
          refine RW.done ?_
          refine AQ.next ?_
          refine CW.cond rfl (fun hc => absurd hc (by rw [decide_eq_true_eq]; omega)) (fun hc => ?_)
          refine CW.skip ?_
          refine AQ.next ?_
          refine CW.seq ?_
          -- region 15
          refine CW.region ?_
          refine RW.op1 rfl (runs_move rfl) ?_
          refine RW.op1 rfl (runs_move rfl) ?_
          refine RW.opE rfl (runs_lit1R Try.underlying44 ti22 (by decide) rfl rfl rfl (fun u hu => by rw [List.mem_singleton.1 hu]; exact RdL.one hS) hst) ?_
          rintro u22 w ⟨I22, hI22, hstn, h22⟩
          clear hst
          have hst := hstn
          clear hstn
          replace hnow := hnow.mono hI22
          replace hD := hD.mono hI22
          replace hJ := hJ.mono hI22
          replace h20 := h20.mono hI22
          replace hA := hA.mono hI22
          replace hS := hS.mono hI22
          replace hle := hle.trans hI22
          have hV := h22
          refine RW.opE rfl (runs_appendR Try.underlying44 ti22 rfl (by decide) rfl rfl (hst.perm (perm_map _ _ Lm L)) hgm hV (by omega) (by unfold maxLen; omega)) ?_
          rintro u23 w ⟨Lv23, hstn, hg23⟩
          clear hst
          have hst := hstn
          clear hstn
          have hgm2 := hg23
          replace hst := hst.perm (perm_map _ _ Lv23 L).symm
          obtain ⟨vm2, hvm2⟩ : ∃ v, v = u23 := ⟨_, rfl⟩
          obtain ⟨Lm2, hLm2⟩ : ∃ l, l = Lv23 := ⟨_, rfl⟩
          rw [← hvm2, ← hLm2] at hgm2
          rw [← hvm2]
          rw [← hLm2] at hst
          refine RW.op1 rfl (runs_assign rfl) ?_
          refine RW.done ?_
          refine AQ.next ?_
          refine CW.seq ?_
          -- region 16
          refine CW.region ?_
          have hc6 := RdL.mono hJ hc5
          refine RW.op1 rfl (runs_move rfl) ?_
          refine RW.op1 rfl (runs_move rfl) ?_
          refine RW.op1 rfl (runs_move rfl) ?_
          refine RW.op1 rfl (RdL.indexAddr Try.underlying37 ti3 (by decide) rfl rfl hc6 (by omega)) ?_
          refine RW.op1 rfl (runs_load1 sc3 rfl (hst.cell_imm (RdI.at hc6 (by omega) (by omega)))) ?_
          refine RW.op1 rfl (runs_quo rfl rfl (by omega)) ?_
          refine RW.call rfl call10 rfl rfl (within_spec hst (v := (IntKind.i64.wrap ((iat cs (i : Int)).tdiv 32))) (n := 3) (i64ok_wrap _) (by unfold i64ok; decide)) ?_
          rintro e w ⟨rfl, hstn⟩
          clear hst
          have hst := hstn
          clear hstn
          have hw124 := within_range ((IntKind.i64.wrap ((iat cs (i : Int)).tdiv 32))) 3
          generalize hx124 : within ((IntKind.i64.wrap ((iat cs (i : Int)).tdiv 32))) 3 = x124 at *
          refine ⟨_, rfl, ?_⟩
          refine RW.op1 rfl (runs_mul rfl rfl (by omega)) ?_
          obtain ⟨c, hc16, hc3⟩ : ∃ c : Nat, 16 * x124 = (c : Int) ∧ (c = 0 ∨ c = 16 ∨ c = 32) := ⟨(16 * x124).toNat, by omega, by omega⟩
          rw [hc16]
          have hnl := hmix.len hok
          refine RW.op1 rfl (runs_assign rfl) ?_
          refine RW.done ?_
          refine AQ.next ?_
          refine CW.seq ?_
          -- region 17
          refine CW.drawSt hst (.q 0 (.q 1 (.q 2 (.q 4 (.q 5 (.q 6 (.l 3 (.l 7 (.q 8 .nil))))))))) follows (by kernel_rfl) (fun w hst => ?_)
          refine DRW.q rfl rfl (fun w' hF => runs_move rfl) ?_
          refine DRW.q rfl rfl (fun w' hF => runs_move rfl) ?_
          refine DRW.q rfl rfl (fun w' hF => RdL.slice_h Try.underlying22 ti5 rfl rfl hS (by omega)) ?_
          refine DRW.q rfl rfl (fun w' hF => runs_move rfl) ?_
          refine DRW.q rfl rfl (fun w' hF => runs_move rfl) ?_
          refine DRW.q rfl rfl (fun w' hF => RdL.slice_l Try.underlying22 ti5 rfl rfl hnow (by omega)) ?_
          refine DRW.opE rfl rfl (runs_appendB (Lv := []) Try.underlying22 ti5 rfl rfl hst (GrowB.nil _) (RdB.part hS (lo := 0) (hi := ((c : Nat) : Int).toNat) (Nat.zero_le _) (by omega)) (by simp; omega)) ?_
          rintro u25 w ⟨Lv25, hstn, hg25⟩
          clear hst
          have hst := hstn
          clear hstn
          refine ⟨FSt.of hst (Imm.le.refl _) (by first | exact (List.sublist_cons_self _ _).trans (List.sublist_append_right _ _) | exact List.Sublist.refl _ | exact List.sublist_cons_self _ _ | exact List.sublist_append_right _ _ | exact (List.sublist_cons_self _ _).trans (List.sublist_cons_self _ _) | exact (List.sublist_append_right _ _).trans (List.sublist_cons_self _ _) | simp), ?_⟩
          have hgN := hg25
          refine DRW.opE rfl rfl (runs_appendB Try.underlying22 ti5 rfl rfl hst hgN (RdB.part hnow (lo := ((c : Nat) : Int).toNat) (hi := now.length) (by omega) (Nat.le_refl _)) (by simp; omega)) ?_
          rintro u26 w ⟨Lv26, hstn, hg26⟩
          clear hst
          have hst := hstn
          clear hstn
          refine ⟨FSt.of hst (Imm.le.refl _) (by first | exact (List.sublist_cons_self _ _).trans (List.sublist_append_right _ _) | exact List.Sublist.refl _ | exact List.sublist_cons_self _ _ | exact List.sublist_append_right _ _ | exact (List.sublist_cons_self _ _).trans (List.sublist_cons_self _ _) | exact (List.sublist_append_right _ _).trans (List.sublist_cons_self _ _) | simp), ?_⟩
          obtain ⟨J26, hJ26, hstn, h26⟩ := Grow.freeze hg26 hst
          clear hst
          have hst := hstn
          clear hstn
          replace hnow := hnow.mono hJ26
          replace hD := hD.mono hJ26
          replace hJ := hJ.mono hJ26
          replace h20 := h20.mono hJ26
          replace hA := hA.mono hJ26
          replace hS := hS.mono hJ26
          replace h22 := h22.mono hJ26
          replace hle := hle.trans hJ26
          try simp only [List.nil_append] at h26
          obtain ⟨now2, hn2⟩ : ∃ n, [] ++ ((r.sec.drop 0).take (((c : Nat) : Int).toNat - 0)) ++ ((now.drop ((c : Nat) : Int).toNat).take (now.length - ((c : Nat) : Int).toNat)) = n := ⟨_, rfl⟩
          have hn3 : now2 = r.sec.take c ++ now.drop c := by
            rw [← hn2, List.nil_append, List.drop_zero, Nat.sub_zero, Int.toNat_natCast, List.take_of_length_le (l := now.drop c) (i := now.length - c) (by rw [List.length_drop]; exact Nat.le_refl _)]
          have hmix2 := hmix.step hok hrok hc3
          rw [← hn3] at hmix2
          have hok2 : ∀ s ∈ recs ++ [r], s.ok := by
            intro s hs
            rcases List.mem_append.1 hs with h | h
            · exact hok s h
            · rw [List.mem_singleton.1 h]; exact hrok
          have hnd2 : ((recs ++ [r]).map TR.key).Nodup := by
            rw [List.map_append]
            refine List.nodup_append.2 ⟨hnd, by simp, ?_⟩
            intro a ha b hb e
            simp only [List.map_cons, List.map_nil, List.mem_singleton] at hb
            rw [e, hb, hrk] at ha
            exact hc68 ha
          have hnl2 := hmix2.len hok2
          replace h26 : RdB J26 u26 now2 := by
            try rw [List.nil_append] at hn2
            rw [← hn2]
            exact h26
          have hN := h26
          refine DRW.q rfl rfl (fun w' hF => runs_assign rfl) ?_
          refine DRW.done ?_
          refine AQ.next ?_
          refine CW.seq ?_
          -- region 18
          refine CW.region ?_
          refine RW.op1 rfl (runs_move rfl) ?_
          refine RW.call rfl call11 rfl rfl (open_spec hst hN (by omega)) ?_
          rintro e w ⟨I27, v27, hI27, rfl, hstn, _⟩
          clear hst
          have hst := hstn
          clear hstn
          replace hnow := hnow.mono hI27
          replace hD := hD.mono hI27
          replace hJ := hJ.mono hI27
          replace h20 := h20.mono hI27
          replace hA := hA.mono hI27
          replace hS := hS.mono hI27
          replace h22 := h22.mono hI27
          replace h26 := h26.mono hI27
          replace hN := hN.mono hI27
          replace hle := hle.trans hI27
          refine ⟨_, rfl, ?_⟩
          refine RW.op1 rfl (runs_move rfl) ?_
          refine RW.op1 rfl (runs_extract rfl rfl) ?_
          refine RW.op1 rfl (runs_extract rfl rfl) ?_
          refine RW.op1 rfl (runs_extract rfl rfl) ?_
          refine RW.op1 rfl (runs_extract rfl rfl) ?_
          refine RW.op1 rfl (runs_extract rfl rfl) ?_
          refine RW.opE rfl (runs_alloc ti27 hst) ?_
          rintro _ w ⟨b28, rfl, hstn⟩
          clear hst
          have hst := hstn
          clear hstn
          first
            | refine RW.opE0 (runs_storeW ti27 rfl rfl hst (k := 0) rfl rfl rfl (NoFz.zero _) rfl) ?_
            | refine RW.opE0 (runs_storeP ti27 rfl rfl hst (k := 0) rfl rfl rfl (NoFz.zero _) rfl) ?_
            | refine RW.opE0 (runs_storeW ti27 rfl rfl hst (k := 1) rfl rfl rfl (NoFz.zero _) rfl) ?_
            | refine RW.opE0 (runs_storeP ti27 rfl rfl hst (k := 1) rfl rfl rfl (NoFz.zero _) rfl) ?_
            | refine RW.opE0 (runs_storeW ti27 rfl rfl hst (k := 2) rfl rfl rfl (NoFz.zero _) rfl) ?_
            | refine RW.opE0 (runs_storeP ti27 rfl rfl hst (k := 2) rfl rfl rfl (NoFz.zero _) rfl) ?_
          rintro w hstn
          clear hst
          have hst := hstn
          clear hstn
          try simp only [List.set_cons_zero, List.set_cons_succ] at hst
          refine RW.op1 rfl (runs_assign rfl) ?_
          refine RW.op1 rfl (runs_assign rfl) ?_
          refine RW.op1 rfl (runs_assign rfl) ?_
          refine RW.op1 rfl (runs_assign rfl) ?_
          have hrv2 := (hrv.mono hJ).push hS
          rw [show (recs.map TR.sec) ++ [r.sec] = (recs ++ [r]).map TR.sec by simp] at hrv2
          have hhad2 := hhad.put r
          rw [hrk] at hhad2
          have hgm3 : Grow 22 1 vm2 (vs ++ [vS]).length (vs ++ [vS]) Lm2 := by rw [List.length_append]; exact hgm2
          refine RW.done ?_
          refine AQ.next ?_
          refine CW.seq ?_
          refine CW.seq ?_
          -- region 19
          refine CW.region ?_
          refine RW.op1 rfl (runs_move rfl) ?_
          refine RW.op1 rfl (runs_neI rfl rfl) ?_
          refine RW.done ?_
          refine AQ.next ?_
          refine CW.cond rfl (fun hc143 => ?_) (fun hc143 => ?_)
          · have hcb143 := hc143
            try simp only [decide_eq_true_eq, decide_eq_false_iff_not] at hc143
            skip
            refine CW.exit ?_
            refine AQ.past_exit ?_
            refine AQ.block_hit ?_
            refine AQ.next ?_
            -- region 7
            refine CW.region ?_
            refine RW.op1 rfl (runs_move rfl) ?_
            refine RW.op1 rfl (runs_add rfl rfl (by omega)) ?_
            refine RW.op1 rfl (runs_assign rfl) ?_
            refine RW.done ?_
            exact AQ.again (x := (i, J, vn, now, vm, Lm, o, rows, recs, vs)) (i + 1, _, _, now2, vm2, Lm2, o2, _, recs ++ [r], vs ++ [vS]) ⟨hle, hst.drop1.drop1, hN, hgm3, hmr2, hhad2, hrv2, hok2, hnd2, hmix2, by omega, by rw [List.length_append]; show _ + 1 ≤ _ + 1; omega⟩ ⟨rfl, rfl, rfl, rfl, rfl, rfl, rfl, rfl, rfl, trivial⟩ (by dsimp only; omega)
          · have hcb143 := hc143
            try simp only [decide_eq_true_eq, decide_eq_false_iff_not] at hc143
            have hop : openOk now2 = true := by
              have h := openR_err now2
              cases ho : openOk now2 with
              | true => rfl
              | false => rw [ho] at h; rw [h] at hc143; exact absurd (by decide) hc143
            have hin := mixed_ok hok2 hnd2 hmix2 hop
            have hrvl := hrv2.1
            refine CW.skip ?_
            refine AQ.next ?_
            refine CW.seq ?_
            -- region 20
            refine CW.region ?_
            refine RW.op1 rfl (runs_assign rfl) ?_
            refine RW.done ?_
            refine AQ.next ?_
            refine CW.seq ?_
            refine CW.seq ?_
            -- region 21
            refine CW.region ?_
            refine RW.op1 rfl (runs_move rfl) ?_
            refine RW.op1 rfl (Grow.len Try.underlying44 rfl hgm3) ?_
            refine RW.op1 rfl (runs_move rfl) ?_
            refine RW.done ?_
            refine AQ.next ?_
            refine CW.block ?_
            -- loop 2
            refine CW.loop Nat (fun k w => St w0 w _ _ ∧ k ≤ (vs ++ [vS]).length) (fun k => [(0, ve), (1, vq), (2, vc), (3, vb), (9, .func (.func 10) #[] #[]), (10, _), (11, vm2), (12, .map (some bm)), (13, .int .i64 (i : Int)), (144, vm2), (145, .int .i64 ((vs ++ [vS]).length : Nat)), (146, .int .i64 (k : Int)), (24, .bool (decide (now2 ∈ ((recs ++ [r]).map TR.sec).take k)))]) (fun k => (vs ++ [vS]).length - k) ⟨0, ⟨hst, Nat.zero_le _⟩, ⟨rfl, rfl, rfl, rfl, rfl, rfl, rfl, rfl, rfl, rfl, rfl, rfl, (show some (Value.bool false) = some (Value.bool (decide (now2 ∈ (((recs ++ [r]).map TR.sec).take 0)))) by rw [List.take_zero]; simp), trivial⟩⟩ ?_
            rintro k w ⟨hstn, hk⟩
            clear hst
            have hst := hstn
            clear hstn
            refine CW.seq ?_
            -- region 22
            refine CW.region ?_
            refine RW.op1 rfl (runs_lss rfl rfl) ?_
            refine RW.done ?_
            refine AQ.next ?_
            refine CW.seq ?_
            refine CW.cond rfl (fun hc147 => ?_) (fun hc147 => ?_)
            · have hcb147 := hc147
              try simp only [decide_eq_true_eq, decide_eq_false_iff_not] at hc147
              have hvl2 : (vs ++ [vS]).length ≤ 7 := by rw [List.length_append]; show vs.length + 1 ≤ 7; omega
              have hk1 : k < (vs ++ [vS]).length := by omega
              obtain ⟨u, hu⟩ : ∃ u, (vs ++ [vS])[k]? = some u := ⟨_, List.getElem?_eq_getElem hk1⟩
              obtain ⟨z, hz⟩ : ∃ z, ((recs ++ [r]).map TR.sec)[k]? = some z := ⟨_, List.getElem?_eq_getElem (by rw [← hrvl]; exact hk1)⟩
              have hrow := hrv2.2 k u z hu hz
              have hzl : z.length = 32 := mixed_len hok2 (List.mem_cons_of_mem _ (List.mem_of_getElem? hz))
              have hdec : decide (now2 ∈ ((recs ++ [r]).map TR.sec).take (k + 1)) = (decide (now2 ∈ ((recs ++ [r]).map TR.sec).take k) || decide (now2 = z)) := by
                rw [Bool.eq_iff_iff]
                simp only [decide_eq_true_eq, Bool.or_eq_true]
                rw [List.take_add_one, hz, Option.toList_some, List.mem_append, List.mem_singleton]
              refine CW.skip ?_
              refine AQ.next ?_
              refine CW.seq ?_
              refine CW.block ?_
              refine CW.seq ?_
              -- region 23
              refine CW.region ?_
              refine RW.op1 rfl (Grow.indexAddr Try.underlying44 ti22 hgm3 rfl rfl (by omega)) ?_
              refine RW.op1 rfl (Grow.load1 sc22 hgm3 rfl hst (fun p hp => by simp [hp]) (by rw [Int.toNat_natCast, Nat.mul_one]; exact hu)) ?_
              refine RW.op1 rfl (runs_assign rfl) ?_
              refine RW.done ?_
              refine AQ.next ?_
              -- region 24
              refine CW.region ?_
              refine RW.op1 rfl (runs_move rfl) ?_
              refine RW.op1 rfl (runs_move rfl) ?_
              refine RW.split (t := 151) rfl (fun hb151 => ?_) (fun hb151 => ?_)
              · have hb151p := hb151
                try simp only [decide_eq_true_eq, decide_eq_false_iff_not] at hb151p
                refine RW.off_guard rfl rfl rfl rfl hb151 ?_
                refine RW.off_guard rfl rfl rfl rfl hb151 ?_
                refine RW.off_guard rfl rfl rfl rfl hb151 ?_
                refine RW.op1 rfl (runs_pick_true rfl hb151 rfl) ?_
                refine RW.op1 rfl (runs_assign rfl) ?_
                refine RW.done ?_
                refine AQ.block_normal ?_
                refine AQ.next ?_
                -- region 25
                refine CW.region ?_
                refine RW.op1 rfl (runs_add rfl rfl (by omega)) ?_
                refine RW.op1 rfl (runs_move rfl) ?_
                refine RW.done ?_
                exact AQ.again (x := k) (k + 1) ⟨hst, by omega⟩ ⟨rfl, rfl, rfl, rfl, rfl, rfl, rfl, rfl, rfl, rfl, rfl, rfl, (by first | (show some (Value.bool true) = some (Value.bool (decide (now2 ∈ ((recs ++ [r]).map TR.sec).take (k + 1)))); rw [hdec, hb151]; rfl) | (show some (Value.bool (decide (now2 = z))) = some (Value.bool (decide (now2 ∈ ((recs ++ [r]).map TR.sec).take (k + 1)))); rw [hdec, hb151]; rfl)), trivial⟩ (by omega)
              · have hb151p := hb151
                try simp only [decide_eq_true_eq, decide_eq_false_iff_not] at hb151p
                refine RW.on_guard rfl rfl rfl rfl hb151 ?_
                refine RW.op1 rfl (runs_move rfl) ?_
                refine RW.on_guard rfl rfl rfl rfl hb151 ?_
                refine RW.op1 rfl (runs_move rfl) ?_
                refine RW.on_guard rfl rfl rfl rfl hb151 ?_
                refine RW.call rfl call9 rfl rfl (same_spec hst hN hrow (by omega)) ?_
                rintro e w ⟨rfl, hstn⟩
                clear hst
                have hst := hstn
                clear hstn
                refine ⟨_, rfl, ?_⟩
                refine RW.op1 rfl (runs_pick_false rfl hb151 rfl) ?_
                refine RW.op1 rfl (runs_assign rfl) ?_
                refine RW.done ?_
                refine AQ.block_normal ?_
                refine AQ.next ?_
                -- region 25
                refine CW.region ?_
                refine RW.op1 rfl (runs_add rfl rfl (by omega)) ?_
                refine RW.op1 rfl (runs_move rfl) ?_
                refine RW.done ?_
                exact AQ.again (x := k) (k + 1) ⟨hst, by omega⟩ ⟨rfl, rfl, rfl, rfl, rfl, rfl, rfl, rfl, rfl, rfl, rfl, rfl, (by first | (show some (Value.bool true) = some (Value.bool (decide (now2 ∈ ((recs ++ [r]).map TR.sec).take (k + 1)))); rw [hdec, hb151]; rfl) | (show some (Value.bool (decide (now2 = z))) = some (Value.bool (decide (now2 ∈ ((recs ++ [r]).map TR.sec).take (k + 1)))); rw [hdec, hb151]; rfl)), trivial⟩ (by omega)
            · have hcb147 := hc147
              try simp only [decide_eq_true_eq, decide_eq_false_iff_not] at hc147
              skip
              refine CW.exit ?_
              refine AQ.past_exit ?_
              refine AQ.past_exit ?_
              refine AQ.block_hit ?_
              refine AQ.next ?_
              refine CW.seq ?_
              -- region 26
              refine CW.region ?_
              refine RW.op1 rfl (runs_move rfl) ?_
              refine RW.op1 rfl (runs_not rfl) ?_
              refine RW.done ?_
              refine AQ.next ?_
              refine CW.cond rfl (fun hc => absurd hc (by
                rw [List.take_of_length_le (by rw [← hrvl]; omega), decide_eq_true hin]; decide)) (fun hc => ?_)
              refine CW.skip ?_
              refine AQ.block_normal ?_
              refine AQ.next ?_
              -- region 7
              refine CW.region ?_
              refine RW.op1 rfl (runs_move rfl) ?_
              refine RW.op1 rfl (runs_add rfl rfl (by omega)) ?_
              refine RW.op1 rfl (runs_assign rfl) ?_
              refine RW.done ?_
              exact AQ.again (x := (i, J, vn, now, vm, Lm, o, rows, recs, vs)) (i + 1, _, _, now2, vm2, Lm2, o2, _, recs ++ [r], vs ++ [vS]) ⟨hle, hst.drop1.drop1, hN, hgm3, hmr2, hhad2, hrv2, hok2, hnd2, hmix2, by omega, by rw [List.length_append]; show _ + 1 ≤ _ + 1; omega⟩ ⟨rfl, rfl, rfl, rfl, rfl, rfl, rfl, rfl, rfl, trivial⟩ (by dsimp only; omega)
    · have hcb48 := hc48
      try simp only [decide_eq_true_eq, decide_eq_false_iff_not] at hc48
      skip
      refine CW.exit ?_
      refine AQ.past_exit ?_
      refine AQ.past_exit ?_
      refine AQ.block_hit ?_
      refine AQ.next ?_
      refine CW.seq ?_
      -- region 28
      refine CW.region ?_
      refine RW.call rfl call12 rfl rfl (wakes_spec hst) ?_
      rintro e w ⟨rfl, I31, hI31, hstn⟩
      clear hst
      have hst := hstn
      clear hstn
      replace hnow := hnow.mono hI31
      replace hJ := hJ.mono hI31
      replace hle := hle.trans hI31
      refine ⟨_, rfl, ?_⟩
      refine RW.op1 rfl (runs_assign rfl) ?_
      refine RW.done ?_
      refine AQ.next ?_
      refine CW.ret ?_
      refine AQ.ret1 rfl rfl ?_
      exact ⟨rfl, _, hle, hst.sub ((List.sublist_append_right _ _).trans (List.sublist_cons_self _ _))⟩
end Go.Proofs.YtnnaplcddhjfbaaX
