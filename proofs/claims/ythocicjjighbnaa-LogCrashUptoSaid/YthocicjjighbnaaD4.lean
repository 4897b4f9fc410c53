/- Flushes, crashes: what these come to. -/
import Derived.Test.YthocicjjighbnaaT
import Derived.Test.YthocicjjighbnaaD3
namespace Go.Proofs.YthocicjjighbnaaX
set_option linter.unusedVariables false
set_option linter.unusedSimpArgs false
open Go Go.RowKit Go.Proofs

theorem flushTo_zero (S : DS) : flushTo S 0 = S.secs := rfl
theorem crashTo_zero (S : DS) (ks : List Int) : crashTo S ks 0 = S.secs := rfl
theorem flushTo_end {S : DS} {k : Nat} (h : S.pend.length ≤ k) : flushTo S k = S.pend.foldl (fun s p => s.set p.1.toNat p.2) S.secs := by
  unfold flushTo
  rw [List.take_of_length_le h]
theorem crashTo_end {S : DS} {ks : List Int} {k : Nat} (h : S.pend.length ≤ k) : crashTo S ks k = (crashR S ks).secs := by
  unfold crashTo crashR
  rw [List.take_of_length_le (by rw [List.length_zipIdx]; exact h)]
theorem rows_set2 {s : List (List UInt8)} (hs : ∀ x ∈ s, x.length = 32) {i : Nat} (hi : i < s.length) {b : List UInt8} (hb : b.length = 32) :
    (s.flatMap (·.map b8)).take (i * 32) ++ b.map b8 ++ (s.flatMap (·.map b8)).drop (i * 32 + (b.map b8).length) = (s.set i b).flatMap (·.map b8) :=
  rows_set (f := fun x : List UInt8 => x.map b8) (size := 32) s (fun x hx => by rw [List.length_map]; exact hs x hx) i b hi (by rw [List.length_map]; exact hb)
/-- A row's head is written over. -/
theorem rows_head {s : List (List UInt8)} (hs : ∀ x ∈ s, x.length = 32) {i : Nat} (hi : i < s.length) {b : List UInt8} (hb : b.length ≤ 32) :
    (s.flatMap (·.map b8)).take (i * 32) ++ b.map b8 ++ (s.flatMap (·.map b8)).drop (i * 32 + (b.map b8).length) = (s.set i (b ++ (s.getD i []).drop b.length)).flatMap (·.map b8) := by
  have hx : (s.getD i []).length = 32 := by
    rw [List.getD_eq_getElem?_getD, List.getElem?_eq_getElem hi, Option.getD_some]
    exact hs _ (List.getElem_mem _)
  have h := rows_set2 hs hi (b := b ++ (s.getD i []).drop b.length) (by rw [List.length_append, List.length_drop, hx]; omega)
  rw [← h, List.map_append, List.length_append, List.length_map, List.length_map, List.length_drop, hx, List.append_assoc, List.append_assoc, List.append_assoc]
  congr 2
  have hrow : (s.flatMap (·.map b8)).drop (i * 32) = (s.getD i []).map b8 ++ (s.flatMap (·.map b8)).drop (i * 32 + 32) := by
    rw [← List.drop_drop]
    have h2 := rows_set2 hs hi (b := s.getD i []) hx
    have e : s.set i (s.getD i []) = s := by
      rw [List.getD_eq_getElem?_getD, List.getElem?_eq_getElem hi, Option.getD_some, List.set_getElem_self]
    rw [e, List.length_map, hx] at h2
    have h3 := congrArg (List.drop (i * 32)) h2
    have hl : ((s.flatMap (·.map b8)).take (i * 32)).length = i * 32 := by
      rw [List.length_take]
      have : (s.flatMap (·.map b8)).length = s.length * 32 := by
        clear hi hb h hx e h2 h3
        induction s with
        | nil => rfl
        | cons x r ih => rw [List.flatMap_cons, List.length_append, ih (fun y hy => hs y (List.mem_cons_of_mem _ hy)), List.length_map, hs x (List.mem_cons_self ..), List.length_cons]; omega
      rw [this]
      have : (i + 1) * 32 ≤ s.length * 32 := Nat.mul_le_mul_right _ hi
      omega
    rw [List.append_assoc, List.drop_append_of_le_length (by omega), List.drop_of_length_le (by omega), List.nil_append] at h3
    rw [List.drop_drop]
    exact h3.symm
  have h5 : (s.flatMap (·.map b8)).drop (i * 32 + b.length) = ((s.flatMap (·.map b8)).drop (i * 32)).drop b.length := by rw [List.drop_drop]
  rw [h5, hrow, List.drop_append_of_le_length (by rw [List.length_map, hx]; exact hb), List.map_drop]
  congr 3
  omega
set_option maxRecDepth 100000 in
set_option maxHeartbeats 1000000 in
theorem flush_spec {w0 w : World} {I : Imm} {L Ld : Own} {d : Value} {S : DS} (hd : DiskO d S Ld) (hst : St w0 w I (Ld ++ L)) :
    Calls Try.prog 31 #[d] w fun e w' => ∃ Ld', e = .returned (.int .i64 (flushR S).2) ∧ St w0 w' I (Ld' ++ L) ∧ DiskO d (flushR S).1 Ld' := by
  have hd0 := hd
  obtain ⟨hb, vl, vp, Ls, Lp, rfl, hstn, hgl, hgp, hok, hsh⟩ := hd.opn hst
  clear hst
  have hst := hstn
  clear hstn
  refine enter Try.func31 rfl (N := 31) rfl rfl ?_
  simp only [List.zipIdx_cons, List.zipIdx_nil, List.map_cons, List.map_nil, Nat.zero_add, Nat.reduceAdd]
  have hle := Imm.le.refl I
  refine CW.seq ?_
  -- region 0
  refine CW.region ?_
  refine RW.op1 rfl (runs_assign rfl) ?_
  refine RW.done ?_
  refine AQ.next ?_
  refine CW.seq ?_
  refine CW.seq ?_
  -- region 1
  refine CW.region ?_
  refine RW.op1 rfl (runs_move rfl) ?_
  refine RW.op1 rfl (runs_nilCheck rfl) ?_
  first
    | refine RW.op1 rfl (runs_fieldAddr0 rfl Try.underlying59 rfl ti4 (by decide)) ?_
    | refine RW.op1 rfl (runs_fieldAddr rfl Try.underlying59 rfl ti4 (by decide)) ?_
  first
    | refine RW.op1 rfl (runs_load1 sc4 rfl (hst.cell_own (k := 0) rfl rfl)) ?_
    | refine RW.op1 rfl (runs_load1 sc4 rfl (hst.cell_own (k := 1) rfl rfl)) ?_
    | refine RW.op1 rfl (runs_load1 sc4 rfl (hst.cell_own (k := 2) rfl rfl)) ?_
  refine RW.done ?_
  refine AQ.next ?_
  refine CW.cond rfl (fun hc8 => ?_) (fun hc8 => ?_)
  · have hcb8 := hc8
    try simp only [decide_eq_true_eq, decide_eq_false_iff_not] at hc8
    refine CW.seq ?_
    -- region 2
    refine CW.region ?_
    refine RW.op1 rfl (runs_assign rfl) ?_
    refine RW.done ?_
    refine AQ.next ?_
    refine CW.ret ?_
    refine AQ.past_ret ?_
    refine AQ.ret1 rfl rfl ?_
    have hw : flushR S = (S, 8) := by unfold flushR; rw [if_pos (by assumption)]
    rw [hw]
    exact ⟨_, rfl, hsh hst, hd0⟩
  · have hcb8 := hc8
    try simp only [decide_eq_true_eq, decide_eq_false_iff_not] at hc8
    refine CW.skip ?_
    refine AQ.next ?_
    refine CW.seq ?_
    refine CW.seq ?_
    -- region 3
    refine CW.region ?_
    refine RW.op1 rfl (runs_move rfl) ?_
    refine RW.op1 rfl (runs_nilCheck rfl) ?_
    first
      | refine RW.op1 rfl (runs_fieldAddr0 rfl Try.underlying59 rfl ti57 (by decide)) ?_
      | refine RW.op1 rfl (runs_fieldAddr rfl Try.underlying59 rfl ti57 (by decide)) ?_
    first
      | refine RW.op1 rfl (runs_load1 sc57 rfl (hst.cell_own (k := 0) rfl rfl)) ?_
      | refine RW.op1 rfl (runs_load1 sc57 rfl (hst.cell_own (k := 1) rfl rfl)) ?_
      | refine RW.op1 rfl (runs_load1 sc57 rfl (hst.cell_own (k := 2) rfl rfl)) ?_
    first
      | refine RW.op1 rfl (RdL.len Try.underlying57 rfl (by assumption)) ?_
      | refine RW.op1 rfl (runs_lenL Try.underlying57 rfl) ?_
      | refine RW.op1 rfl (Grow.len Try.underlying57 rfl (by assumption)) ?_
    refine RW.op1 rfl (runs_move rfl) ?_
    refine RW.done ?_
    refine AQ.next ?_
    refine CW.block ?_
    -- loop 1
    refine CW.loop (Nat × Own) (fun x w => St w0 w I ((hb, .cells #[vl, vp, .int .i64 S.left, .bool S.down] 59) :: (x.2 ++ (Lp ++ L))) ∧ Grow 72 32 vl S.secs.length ((flushTo S x.1).flatMap (·.map b8)) x.2 ∧ x.1 ≤ S.pend.length) (fun x => [(0, .pointer (some ⟨hb, 0, none⟩)), (12, vp), (13, .int .i64 (S.pend.length : Nat)), (14, .int .i64 (x.1 : Int))]) (fun x => S.pend.length - x.1) ⟨(0, Ls), ⟨hst, hgl, Nat.zero_le _⟩, ⟨rfl, rfl, rfl, rfl, trivial⟩⟩ ?_
    clear hgl
    rintro ⟨k, Ls1⟩ w ⟨hstn, hgl, hk⟩
    dsimp only at hstn hgl hk ⊢
    clear hst
    have hst := hstn
    clear hstn
    refine CW.seq ?_
    -- region 4
    refine CW.region ?_
    refine RW.op1 rfl (runs_lss rfl rfl) ?_
    refine RW.done ?_
    refine AQ.next ?_
    refine CW.seq ?_
    refine CW.cond rfl (fun hc15 => ?_) (fun hc15 => ?_)
    · have hcb15 := hc15
      try simp only [decide_eq_true_eq, decide_eq_false_iff_not] at hc15
      have hpn := Grow.lt hgp
      unfold maxLen at hpn
      have hk1 : k < S.pend.length := by omega
      obtain ⟨p, hp⟩ : ∃ p, S.pend[k] = p := ⟨_, rfl⟩
      have hp2 : S.pend[k]? = some p := by rw [List.getElem?_eq_getElem hk1, hp]
      obtain ⟨hpl, hpa, hpb⟩ := hok.2.2.1 p (List.mem_of_getElem? hp2)
      obtain ⟨hfl, hfs⟩ := flushTo_ok hok k
      have hnx := flushTo_next hp2
      have hmul := Nat.mul_le_mul_right 32 (show p.1.toNat + 1 ≤ S.secs.length by omega)
      refine CW.skip ?_
      refine AQ.next ?_
      refine CW.seq ?_
      refine CW.block ?_
      refine CW.seq ?_
      -- region 5
      refine CW.region ?_
      refine RW.op1 rfl (Grow.indexAddr Try.underlying57 ti74 hgp rfl rfl (by omega)) ?_
      refine RW.op1 rfl (Grow.loadAt (row := wrow p) ag74 ti74 hgp rfl hst (fun p hp => by simp [hp]) (wrow_len hpl) (row_at (f := wrow) (fun q hq => wrow_len (hok.2.2.1 q hq).1) hp2)) ?_
      refine RW.opE rfl (runs_alloc ti74 hst) ?_
      rintro _ w ⟨b1, rfl, hstn⟩
      clear hst
      have hst := hstn
      clear hstn
      refine RW.opE0 (runs_storeW ti74 rfl rfl hst (k := 0) rfl (wrow_len hpl) rfl (NoFz.zero _) (wrow_all _)) ?_
      rintro w hstn
      clear hst
      have hst := hstn
      clear hstn
      try simp only [List.set_cons_zero, List.set_cons_succ] at hst
      refine RW.done ?_
      refine AQ.next ?_
      -- region 6
      refine CW.draw (FSt w0 I ((b1, .cells (wrow p).toArray 74) :: (hb, .cells #[vl, vp, .int .i64 S.left, .bool S.down] 59) :: (Lp ++ L))) (.q 0 (.q 1 (.q 2 (.q 3 (.q 4 (.q 5 (.q 6 (.q 7 (.q 8 (.l 9 .nil)))))))))) follows (by kernel_rfl) ⟨_, Imm.le.refl _, hst.draw.sub (((List.sublist_append_right _ _).cons_cons _).cons_cons _)⟩ ?_
      replace hst := hst.draw
      refine DRW.q rfl rfl (fun w' hF => runs_move rfl) ?_
      refine DRW.q rfl rfl (fun w' hF => runs_nilCheck rfl) ?_
      first
        | refine DRW.q rfl rfl (fun w' hF => runs_fieldAddr0 rfl Try.underlying59 rfl ti56 (by decide)) ?_
        | refine DRW.q rfl rfl (fun w' hF => runs_fieldAddr rfl Try.underlying59 rfl ti56 (by decide)) ?_
      refine DRW.q rfl rfl (FSt.load1_own sc56 rfl (k := 1) rfl rfl) ?_
      first
        | refine DRW.q rfl rfl (fun w' hF => runs_fieldAddr0 rfl Try.underlying74 rfl ti3 (by decide)) ?_
        | refine DRW.q rfl rfl (fun w' hF => runs_fieldAddr rfl Try.underlying74 rfl ti3 (by decide)) ?_
      refine DRW.q rfl rfl (FSt.load1_own (v := .int .i64 p.1) sc3 rfl (k := 0) rfl rfl) ?_
      first
        | refine DRW.q rfl rfl (fun w' hF => runs_fieldAddr0 rfl Try.underlying74 rfl ti72 (by decide)) ?_
        | refine DRW.q rfl rfl (fun w' hF => runs_fieldAddr rfl Try.underlying74 rfl ti72 (by decide)) ?_
      refine DRW.q rfl rfl (FSt.loadN (vs := p.2.map b8) ag72 ti72 rfl (k := 0) rfl (by show (p.2.map b8).take 32 = _; exact List.take_of_length_le (by rw [List.length_map]; omega)) (by rw [List.length_map]; exact hpl)) ?_
      refine DRW.q rfl rfl (fun w' hF => Grow.indexAddr Try.underlying56 ti72 hgl rfl rfl (by omega)) ?_
      refine DRW.opE0 rfl (Grow.storeAt (L1 := [(b1, _), (hb, .cells #[vl, vp, .int .i64 S.left, .bool S.down] 59)]) ti72 hgl rfl rfl hst (by rw [List.length_map]; exact hpl) (by omega) (by omega) (b8_one _)) ?_
      rintro w ⟨Ls3, hstn, hgn⟩
      clear hst
      have hst := hstn
      clear hstn
      try simp only [List.set_cons_zero, List.set_cons_succ] at hst
      refine ⟨FSt.of hst (Imm.le.refl _) (((List.sublist_append_right _ _).cons_cons _).cons_cons _), ?_⟩
      refine DRW.done ?_
      refine AQ.block_normal ?_
      refine AQ.next ?_
      -- region 7
      refine CW.region ?_
      refine RW.op1 rfl (runs_add rfl rfl (by omega)) ?_
      refine RW.op1 rfl (runs_move rfl) ?_
      refine RW.done ?_
      rw [rows_set2 hfs (by omega) hpl, ← hnx] at hgn
      exact AQ.again (x := (k, Ls1)) (k + 1, _) ⟨hst.drop1, hgn, by omega⟩ ⟨rfl, rfl, rfl, rfl, trivial⟩ (by dsimp only; omega)
    · have hcb15 := hc15
      try simp only [decide_eq_true_eq, decide_eq_false_iff_not] at hc15
      skip
      refine CW.exit ?_
      refine AQ.past_exit ?_
      refine AQ.past_exit ?_
      refine AQ.block_hit ?_
      refine AQ.next ?_
      refine CW.seq ?_
      -- region 8
      refine CW.region ?_
      refine RW.op1 rfl (runs_move rfl) ?_
      refine RW.op1 rfl (runs_nilCheck rfl) ?_
      first
        | refine RW.op1 rfl (runs_fieldAddr0 rfl Try.underlying59 rfl ti57 (by decide)) ?_
        | refine RW.op1 rfl (runs_fieldAddr rfl Try.underlying59 rfl ti57 (by decide)) ?_
      first
        | refine RW.opE0 (runs_store1P ti57 rfl rfl hst (k := 0) rfl rfl (NoFz.zero _) rfl) ?_
        | refine RW.opE0 (runs_store1P ti57 rfl rfl hst (k := 1) rfl rfl (NoFz.zero _) rfl) ?_
        | refine RW.opE0 (runs_store1P ti57 rfl rfl hst (k := 2) rfl rfl (NoFz.zero _) rfl) ?_
      rintro w hstn
      clear hst
      have hst := hstn
      clear hstn
      try simp only [List.set_cons_zero, List.set_cons_succ] at hst
      refine RW.done ?_
      refine AQ.next ?_
      refine CW.seq ?_
      -- region 9
      refine CW.region ?_
      refine RW.op1 rfl (runs_assign rfl) ?_
      refine RW.done ?_
      refine AQ.next ?_
      refine CW.ret ?_
      refine AQ.ret1 rfl rfl ?_
      have hw : flushR S = ({ S with secs := S.pend.foldl (fun s p => s.set p.1.toNat p.2) S.secs, pend := [] }, 0) := by unfold flushR; rw [if_neg (by rw [hcb8]; decide)]
      have hke := flushTo_end (S := S) (k := k) (by omega)
      obtain ⟨hfl, hfs⟩ := flushTo_ok hok k
      rw [hke] at hgl hfl hfs
      rw [hw]
      obtain ⟨Ld', h1, h2⟩ := DiskO.shut (S := { S with secs := S.pend.foldl (fun s p => s.set p.1.toNat p.2) S.secs, pend := [] }) (Lp := []) (by
        exact hst.sub (((List.Sublist.refl _).append (List.sublist_append_right _ _)).cons_cons _)) (by dsimp only; rw [hfl]; exact hgl) (Grow.nil _ _) ⟨by dsimp only; rw [hfl]; exact hok.1, hfs, by simp, hok.2.2.2⟩
      exact ⟨Ld', rfl, h1, h2⟩
set_option maxRecDepth 100000 in
set_option maxHeartbeats 1000000 in
theorem crash_spec {w0 w : World} {I : Imm} {L Ld : Own} {d : Value} {S : DS} (hd : DiskO d S Ld) (hst : St w0 w I (Ld ++ L)) {vk : Value} {ks : List Int} (hk0 : RdI I vk ks) :
    Calls Try.prog 26 #[d, vk] w fun e w' => ∃ Ld', e = .returned (.tuple #[]) ∧ St w0 w' I (Ld' ++ L) ∧ DiskO d (crashR S ks) Ld' := by
  have hd0 := hd
  obtain ⟨hb, vl, vp, Ls, Lp, rfl, hstn, hgl, hgp, hok, hsh⟩ := hd.opn hst
  clear hst
  have hst := hstn
  clear hstn
  refine enter Try.func26 rfl (N := 49) rfl rfl ?_
  simp only [List.zipIdx_cons, List.zipIdx_nil, List.map_cons, List.map_nil, Nat.zero_add, Nat.reduceAdd]
  have hle := Imm.le.refl I
  refine CW.seq ?_
  refine CW.seq ?_
  -- region 0
  refine CW.region ?_
  refine RW.op1 rfl (runs_move rfl) ?_
  refine RW.op1 rfl (runs_nilCheck rfl) ?_
  first
    | refine RW.op1 rfl (runs_fieldAddr0 rfl Try.underlying59 rfl ti57 (by decide)) ?_
    | refine RW.op1 rfl (runs_fieldAddr rfl Try.underlying59 rfl ti57 (by decide)) ?_
  first
    | refine RW.op1 rfl (runs_load1 sc57 rfl (hst.cell_own (k := 0) rfl rfl)) ?_
    | refine RW.op1 rfl (runs_load1 sc57 rfl (hst.cell_own (k := 1) rfl rfl)) ?_
    | refine RW.op1 rfl (runs_load1 sc57 rfl (hst.cell_own (k := 2) rfl rfl)) ?_
  first
    | refine RW.op1 rfl (RdL.len Try.underlying57 rfl (by assumption)) ?_
    | refine RW.op1 rfl (runs_lenL Try.underlying57 rfl) ?_
    | refine RW.op1 rfl (Grow.len Try.underlying57 rfl (by assumption)) ?_
  refine RW.op1 rfl (runs_move rfl) ?_
  refine RW.done ?_
  refine AQ.next ?_
  refine CW.block ?_
  -- loop 1
  refine CW.loop (Nat × Own) (fun x w => St w0 w I ((hb, .cells #[vl, vp, .int .i64 S.left, .bool S.down] 59) :: (x.2 ++ (Lp ++ L))) ∧ Grow 72 32 vl S.secs.length ((crashTo S ks x.1).flatMap (·.map b8)) x.2 ∧ x.1 ≤ S.pend.length) (fun x => [(0, .pointer (some ⟨hb, 0, none⟩)), (1, vk), (10, vp), (11, .int .i64 (S.pend.length : Nat)), (12, .int .i64 (x.1 : Int))]) (fun x => S.pend.length - x.1) ⟨(0, Ls), ⟨hst, hgl, Nat.zero_le _⟩, ⟨rfl, rfl, rfl, rfl, rfl, trivial⟩⟩ ?_
  clear hgl
  rintro ⟨k, Ls1⟩ w ⟨hstn, hgl, hk⟩
  dsimp only at hstn hgl hk ⊢
  clear hst
  have hst := hstn
  clear hstn
  refine CW.seq ?_
  -- region 1
  refine CW.region ?_
  refine RW.op1 rfl (runs_lss rfl rfl) ?_
  refine RW.done ?_
  refine AQ.next ?_
  refine CW.seq ?_
  refine CW.cond rfl (fun hc13 => ?_) (fun hc13 => ?_)
  · have hcb13 := hc13
    try simp only [decide_eq_true_eq, decide_eq_false_iff_not] at hc13
    have hpn := Grow.lt hgp
    unfold maxLen at hpn
    have hk1 : k < S.pend.length := by omega
    obtain ⟨p, hp⟩ : ∃ p, S.pend[k] = p := ⟨_, rfl⟩
    have hp2 : S.pend[k]? = some p := by rw [List.getElem?_eq_getElem hk1, hp]
    obtain ⟨hpl, hpa, hpb⟩ := hok.2.2.1 p (List.mem_of_getElem? hp2)
    obtain ⟨hfl, hfs⟩ := crashTo_ok hok ks k
    have hnx := crashTo_next (ks := ks) hp2
    have hkn := keepN_le ks k
    have hmul := Nat.mul_le_mul_right 32 (show p.1.toNat + 1 ≤ S.secs.length by omega)
    refine CW.skip ?_
    refine AQ.next ?_
    refine CW.seq ?_
    refine CW.block ?_
    refine CW.seq ?_
    -- region 2
    refine CW.region ?_
    refine RW.op1 rfl (runs_move rfl) ?_
    refine RW.op1 rfl (Grow.indexAddr Try.underlying57 ti74 hgp rfl rfl (by omega)) ?_
    refine RW.op1 rfl (Grow.loadAt (row := wrow p) ag74 ti74 hgp rfl hst (fun p hp => by simp [hp]) (wrow_len hpl) (row_at (f := wrow) (fun q hq => wrow_len (hok.2.2.1 q hq).1) hp2)) ?_
    refine RW.opE rfl (runs_alloc ti74 hst) ?_
    rintro _ w ⟨b1, rfl, hstn⟩
    clear hst
    have hst := hstn
    clear hstn
    refine RW.op1 rfl (runs_assign rfl) ?_
    refine RW.opE0 (runs_storeW ti74 rfl rfl hst (k := 0) rfl (wrow_len hpl) rfl (NoFz.zero _) (wrow_all _)) ?_
    rintro w hstn
    clear hst
    have hst := hstn
    clear hstn
    try simp only [List.set_cons_zero, List.set_cons_succ] at hst
    refine RW.done ?_
    refine AQ.next ?_
    refine CW.seq ?_
    -- region 3
    refine CW.region ?_
    refine RW.op1 rfl (runs_assign rfl) ?_
    refine RW.done ?_
    refine AQ.next ?_
    refine CW.seq ?_
    refine CW.seq ?_
    -- region 4
    refine CW.region ?_
    refine RW.op1 rfl (runs_move rfl) ?_
    refine RW.op1 rfl (runs_move rfl) ?_
    refine RW.op1 rfl (RdL.len Try.underlying22 rfl hk0) ?_
    refine RW.op1 rfl (runs_lss rfl rfl) ?_
    refine RW.done ?_
    refine AQ.next ?_
    refine CW.cut Unit (fun _ w => St w0 w I ((b1, .cells (wrow p).toArray 74) :: (hb, .cells #[vl, vp, .int .i64 S.left, .bool S.down] 59) :: (Ls1 ++ (Lp ++ L)))) (fun _ => [(0, .pointer (some ⟨hb, 0, none⟩)), (1, vk), (5, .pointer (some ⟨b1, 0, none⟩)), (6, .int .i64 ((keepN ks k : Nat) : Int)), (10, vp), (11, .int .i64 (S.pend.length : Nat)), (12, .int .i64 (k : Int))]) ?_ ?_
    · refine CW.cond rfl (fun hc20 => ?_) (fun hc20 => ?_)
      · have hcb20 := hc20
        try simp only [decide_eq_true_eq, decide_eq_false_iff_not] at hc20
        -- region 5
        refine CW.region ?_
        refine RW.op1 rfl (runs_move rfl) ?_
        refine RW.op1 rfl (runs_move rfl) ?_
        refine RW.op1 rfl (RdL.indexAddr Try.underlying22 ti3 (by decide) rfl rfl hk0 (by omega)) ?_
        refine RW.op1 rfl (runs_load1 sc3 rfl (hst.cell_imm (RdI.at hk0 (by omega) (by omega)))) ?_
        refine RW.call rfl call43 rfl rfl (kept_spec hst (iat ks (k : Int))) ?_
        rintro e w ⟨rfl, hstn⟩
        clear hst
        have hst := hstn
        clear hstn
        refine ⟨_, rfl, ?_⟩
        refine RW.op1 rfl (runs_assign rfl) ?_
        refine RW.done ?_
        exact AQ.meet () hst ⟨rfl, rfl, rfl, (by unfold keepN; first | (rw [if_pos (by omega)]; show some (Value.int .i64 (keptR (iat ks (k : Int)))) = _; rw [show iat ks (k : Int) = ks.getD k 0 from rfl]; congr 2; unfold keptR; (repeat' split) <;> rfl) | (rw [if_neg (by omega)]; rfl)), rfl, rfl, rfl, trivial⟩
      · have hcb20 := hc20
        try simp only [decide_eq_true_eq, decide_eq_false_iff_not] at hc20
        refine CW.skip ?_
        exact AQ.meet () hst ⟨rfl, rfl, rfl, (by unfold keepN; first | (rw [if_pos (by omega)]; show some (Value.int .i64 (keptR (iat ks (k : Int)))) = _; rw [show iat ks (k : Int) = ks.getD k 0 from rfl]; congr 2; unfold keptR; (repeat' split) <;> rfl) | (rw [if_neg (by omega)]; rfl)), rfl, rfl, rfl, trivial⟩
    · rintro _ w hstn
      clear hst
      have hst := hstn
      clear hstn
      refine AQ.next ?_
      -- region 6
      refine CW.draw (FSt w0 I ((b1, .cells (wrow p).toArray 74) :: (hb, .cells #[vl, vp, .int .i64 S.left, .bool S.down] 59) :: (Lp ++ L))) (.q 0 (.q 1 (.q 2 (.q 3 (.q 4 (.q 5 (.q 6 (.q 7 (.q 8 (.q 9 (.q 10 (.q 11 (.l 12 .nil))))))))))))) follows (by kernel_rfl) ⟨_, Imm.le.refl _, hst.draw.sub (((List.sublist_append_right _ _).cons_cons _).cons_cons _)⟩ ?_
      replace hst := hst.draw
      refine DRW.q rfl rfl (fun w' hF => runs_move rfl) ?_
      refine DRW.q rfl rfl (fun w' hF => runs_nilCheck rfl) ?_
      first
        | refine DRW.q rfl rfl (fun w' hF => runs_fieldAddr0 rfl Try.underlying59 rfl ti56 (by decide)) ?_
        | refine DRW.q rfl rfl (fun w' hF => runs_fieldAddr rfl Try.underlying59 rfl ti56 (by decide)) ?_
      refine DRW.q rfl rfl (FSt.load1_own sc56 rfl (k := 1) rfl rfl) ?_
      first
        | refine DRW.q rfl rfl (fun w' hF => runs_fieldAddr0 rfl Try.underlying74 rfl ti3 (by decide)) ?_
        | refine DRW.q rfl rfl (fun w' hF => runs_fieldAddr rfl Try.underlying74 rfl ti3 (by decide)) ?_
      refine DRW.q rfl rfl (FSt.load1_own (v := .int .i64 p.1) sc3 rfl (k := 0) rfl rfl) ?_
      refine DRW.q rfl rfl (fun w' hF => Grow.indexAddr Try.underlying56 ti72 hgl rfl rfl (by omega)) ?_
      refine DRW.q rfl rfl (fun w' hF => runs_move rfl) ?_
      refine DRW.q rfl rfl (fun w' hF => runs_sliceA_h Try.underlying72 ti5 rfl rfl (by omega)) ?_
      first
        | refine DRW.q rfl rfl (fun w' hF => runs_fieldAddr0 rfl Try.underlying74 rfl ti72 (by decide)) ?_
        | refine DRW.q rfl rfl (fun w' hF => runs_fieldAddr rfl Try.underlying74 rfl ti72 (by decide)) ?_
      refine DRW.q rfl rfl (fun w' hF => runs_move rfl) ?_
      refine DRW.q rfl rfl (fun w' hF => runs_sliceA_h Try.underlying72 ti5 rfl rfl (by omega)) ?_
      refine DRW.opE rfl rfl (Grow.copyAt (L1 := [(b1, _), (hb, .cells #[vl, vp, .int .i64 S.left, .bool S.down] 59)]) (cs := (p.2.take (keepN ks k)).map b8) Try.underlying33 ti5 hgl rfl rfl hst (by rw [List.length_map, List.length_take]; omega) (Nat.le_refl _) (by
            intro j u hj
            rw [add_lit]
            refine hst.cell_own (k := 0) rfl ?_
            rw [List.map_take, List.getElem?_take] at hj
            split at hj
            · show (wrow p).toArray[1 + j]? = some u
              rw [Nat.add_comm]
              simpa [wrow] using hj
            · cases hj) (by omega) (by omega) (b8_one _)) ?_
      rintro _ w ⟨Ls4, hstn, hgn⟩
      clear hst
      have hst := hstn
      clear hstn
      refine ⟨FSt.of hst (Imm.le.refl _) (((List.sublist_append_right _ _).cons_cons _).cons_cons _), ?_⟩
      refine DRW.done ?_
      refine AQ.block_normal ?_
      refine AQ.next ?_
      -- region 7
      refine CW.region ?_
      refine RW.op1 rfl (runs_add rfl rfl (by omega)) ?_
      refine RW.op1 rfl (runs_move rfl) ?_
      refine RW.done ?_
      rw [rows_head hfs (by omega) (by rw [List.length_take]; omega), List.length_take, Nat.min_eq_left (by omega)] at hgn
      rw [show (crashTo S ks k).set p.1.toNat (p.2.take (keepN ks k) ++ ((crashTo S ks k).getD p.1.toNat []).drop (keepN ks k)) = crashTo S ks (k + 1) from hnx.symm] at hgn
      exact AQ.again (x := (k, Ls1)) (k + 1, _) ⟨hst.drop1, hgn, by omega⟩ ⟨rfl, rfl, rfl, rfl, rfl, trivial⟩ (by dsimp only; omega)
  · have hcb13 := hc13
    try simp only [decide_eq_true_eq, decide_eq_false_iff_not] at hc13
    skip
    refine CW.exit ?_
    refine AQ.past_exit ?_
    refine AQ.past_exit ?_
    refine AQ.block_hit ?_
    refine AQ.next ?_
    -- region 8
    refine CW.region ?_
    refine RW.op1 rfl (runs_move rfl) ?_
    refine RW.op1 rfl (runs_move rfl) ?_
    refine RW.op1 rfl (runs_move rfl) ?_
    refine RW.op1 rfl (runs_nilCheck rfl) ?_
    first
      | refine RW.op1 rfl (runs_fieldAddr0 rfl Try.underlying59 rfl ti57 (by decide)) ?_
      | refine RW.op1 rfl (runs_fieldAddr rfl Try.underlying59 rfl ti57 (by decide)) ?_
    first
      | refine RW.opE0 (runs_store1P ti57 rfl rfl hst (k := 0) rfl rfl (NoFz.zero _) rfl) ?_
      | refine RW.opE0 (runs_store1P ti57 rfl rfl hst (k := 1) rfl rfl (NoFz.zero _) rfl) ?_
      | refine RW.opE0 (runs_store1P ti57 rfl rfl hst (k := 2) rfl rfl (NoFz.zero _) rfl) ?_
    rintro w hstn
    clear hst
    have hst := hstn
    clear hstn
    try simp only [List.set_cons_zero, List.set_cons_succ] at hst
    refine RW.op1 rfl (runs_nilCheck rfl) ?_
    first
      | refine RW.op1 rfl (runs_fieldAddr0 rfl Try.underlying59 rfl ti3 (by decide)) ?_
      | refine RW.op1 rfl (runs_fieldAddr rfl Try.underlying59 rfl ti3 (by decide)) ?_
    first
      | refine RW.opE0 (runs_store1P ti3 rfl rfl hst (k := 0) rfl rfl (NoFz.zero _) rfl) ?_
      | refine RW.opE0 (runs_store1P ti3 rfl rfl hst (k := 1) rfl rfl (NoFz.zero _) rfl) ?_
      | refine RW.opE0 (runs_store1P ti3 rfl rfl hst (k := 2) rfl rfl (NoFz.zero _) rfl) ?_
    rintro w hstn
    clear hst
    have hst := hstn
    clear hstn
    try simp only [List.set_cons_zero, List.set_cons_succ] at hst
    refine RW.op1 rfl (runs_nilCheck rfl) ?_
    first
      | refine RW.op1 rfl (runs_fieldAddr0 rfl Try.underlying59 rfl ti4 (by decide)) ?_
      | refine RW.op1 rfl (runs_fieldAddr rfl Try.underlying59 rfl ti4 (by decide)) ?_
    first
      | refine RW.opE0 (runs_store1P ti4 rfl rfl hst (k := 0) rfl rfl (NoFz.zero _) rfl) ?_
      | refine RW.opE0 (runs_store1P ti4 rfl rfl hst (k := 1) rfl rfl (NoFz.zero _) rfl) ?_
      | refine RW.opE0 (runs_store1P ti4 rfl rfl hst (k := 2) rfl rfl (NoFz.zero _) rfl) ?_
    rintro w hstn
    clear hst
    have hst := hstn
    clear hstn
    try simp only [List.set_cons_zero, List.set_cons_succ] at hst
    refine RW.done ?_
    refine AQ.end0 rfl ?_
    have hke := crashTo_end (S := S) (ks := ks) (k := k) (by omega)
    obtain ⟨hfl, hfs⟩ := crashTo_ok hok ks k
    rw [hke] at hgl hfl hfs
    obtain ⟨Ld', h1, h2⟩ := DiskO.shut (S := crashR S ks) (Lp := []) (by
      exact hst.sub (((List.Sublist.refl _).append (List.sublist_append_right _ _)).cons_cons _)) (by rw [hfl]; exact hgl) (Grow.nil _ _) ⟨by rw [hfl]; exact hok.1, hfs, by unfold crashR; simp, (show -1 ≤ (-1 : Int) ∧ (-1 : Int) ≤ 9223372036854775807 by decide)⟩
    exact ⟨Ld', rfl, h1, h2⟩
end Go.Proofs.YthocicjjighbnaaX
