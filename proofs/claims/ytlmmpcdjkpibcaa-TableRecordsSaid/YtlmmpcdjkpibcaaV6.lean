/- Bytes as an item: the reader, the decoding. -/
import Derived.Test.YtlmmpcdjkpibcaaT
import Derived.Test.YtlmmpcdjkpibcaaV5
namespace Go.Proofs.YtlmmpcdjkpibcaaX
set_option linter.unusedVariables false
set_option linter.unusedSimpArgs false
open Go Go.RowKit Go.Proofs

set_option maxRecDepth 100000 in
set_option maxHeartbeats 8000000 in
theorem rd_read_spec {w0 w : World} {I : Imm} {L : Own} {bR : Nat} {v : Value} (hst : St w0 w I ((bR, Obj.cells #[v, .int .i64 ((0 : Nat) : Int), .bool false] 124) :: L)) {av : List AV} {m : Nat} {o : Bool} (hv : RdA I v av) (hgood : ∀ a ∈ av, a.good m o) (hlen : av.length ≤ 100000000) :
    Calls Try.prog 74 #[.pointer (some ⟨bR, 0, none⟩)] w fun e w' => ∃ I' vh p, I.le I' ∧ e = .returned (itv (readIt av) vh) ∧ vh.oneCell' = true ∧ RdH I' vh (readIt av).heads ∧ St w0 w' I' ((bR, Obj.cells #[v, .int .i64 ((p : Nat) : Int), .bool (readBad av)] 124) :: L) := by
  refine enter Try.func74 rfl (N := 91) rfl rfl ?_
  simp only [List.zipIdx_cons, List.zipIdx_nil, List.map_cons, List.map_nil, Nat.zero_add, Nat.reduceAdd]
  have hle := Imm.le.refl I
  refine CW.seq ?_
  -- region 0
  refine CW.region ?_
  refine RW.opE rfl (runs_alloc ti36 hst) ?_
  rintro _ w ⟨b1, rfl, hstn⟩
  clear hst
  have hst := hstn
  clear hstn
  refine RW.done ?_
  refine AQ.next ?_
  refine CW.seq ?_
  -- region 1
  refine CW.region ?_
  refine RW.opE rfl (runs_alloc ti36 hst) ?_
  rintro _ w ⟨b2, rfl, hstn⟩
  clear hst
  have hst := hstn
  clear hstn
  refine RW.done ?_
  refine AQ.next ?_
  refine CW.seq ?_
  -- region 2
  refine CW.region ?_
  replace hst := hst.perm (List.perm_middle (l₁ := [_, _]))
  refine RW.op1 rfl (runs_move rfl) ?_
  refine RW.call rfl call94 rfl rfl (rd_number_spec (s := (0 : Nat)) hst hv hgood (by omega)) ?_
  rintro e w ⟨bb0, rfl, hb0, hstn⟩
  clear hst
  have hst := hstn
  clear hstn
  refine ⟨_, rfl, ?_⟩
  refine RW.op1 rfl (runs_move rfl) ?_
  refine RW.call rfl call94 rfl rfl (rd_number_spec (s := (1 : Nat)) hst hv hgood (by omega)) ?_
  rintro e w ⟨bb1, rfl, hb1, hstn⟩
  clear hst
  have hst := hstn
  clear hstn
  refine ⟨_, rfl, ?_⟩
  refine RW.op1 rfl (runs_move rfl) ?_
  refine RW.call rfl call94 rfl rfl (rd_number_spec (s := (2 : Nat)) hst hv hgood (by omega)) ?_
  rintro e w ⟨bb2, rfl, hb2, hstn⟩
  clear hst
  have hst := hstn
  clear hstn
  refine ⟨_, rfl, ?_⟩
  refine RW.op1 rfl (runs_move rfl) ?_
  refine RW.call rfl call95 rfl rfl (rd_text_spec (s := (3 : Nat)) hst hv hgood (by omega)) ?_
  rintro e w ⟨bb3, rfl, hb3, hstn⟩
  clear hst
  have hst := hstn
  clear hstn
  refine ⟨_, rfl, ?_⟩
  first
    | refine RW.op1 rfl (runs_fieldAddr0 rfl Try.underlying36 rfl ti3 (by decide)) ?_
    | refine RW.op1 rfl (runs_fieldAddr rfl Try.underlying36 rfl ti3 (by decide)) ?_
  first
    | refine RW.opE0 (runs_store1P ti3 rfl rfl hst (k := 0) rfl rfl (NoFz.zero _) rfl) ?_
    | refine RW.opE0 (runs_store1P ti3 rfl rfl hst (k := 1) rfl rfl (NoFz.zero _) rfl) ?_
    | refine RW.opE0 (runs_store1P ti3 rfl rfl hst (k := 2) rfl rfl (NoFz.zero _) rfl) ?_
  rintro w hstn
  clear hst
  have hst := hstn
  clear hstn
  try simp only [List.set_cons_zero, List.set_cons_succ] at hst
  first
    | refine RW.op1 rfl (runs_fieldAddr0 rfl Try.underlying36 rfl ti3 (by decide)) ?_
    | refine RW.op1 rfl (runs_fieldAddr rfl Try.underlying36 rfl ti3 (by decide)) ?_
  first
    | refine RW.opE0 (runs_store1P ti3 rfl rfl hst (k := 0) rfl rfl (NoFz.zero _) rfl) ?_
    | refine RW.opE0 (runs_store1P ti3 rfl rfl hst (k := 1) rfl rfl (NoFz.zero _) rfl) ?_
    | refine RW.opE0 (runs_store1P ti3 rfl rfl hst (k := 2) rfl rfl (NoFz.zero _) rfl) ?_
  rintro w hstn
  clear hst
  have hst := hstn
  clear hstn
  try simp only [List.set_cons_zero, List.set_cons_succ] at hst
  first
    | refine RW.op1 rfl (runs_fieldAddr0 rfl Try.underlying36 rfl ti3 (by decide)) ?_
    | refine RW.op1 rfl (runs_fieldAddr rfl Try.underlying36 rfl ti3 (by decide)) ?_
  first
    | refine RW.opE0 (runs_store1P ti3 rfl rfl hst (k := 0) rfl rfl (NoFz.zero _) rfl) ?_
    | refine RW.opE0 (runs_store1P ti3 rfl rfl hst (k := 1) rfl rfl (NoFz.zero _) rfl) ?_
    | refine RW.opE0 (runs_store1P ti3 rfl rfl hst (k := 2) rfl rfl (NoFz.zero _) rfl) ?_
  rintro w hstn
  clear hst
  have hst := hstn
  clear hstn
  try simp only [List.set_cons_zero, List.set_cons_succ] at hst
  first
    | refine RW.op1 rfl (runs_fieldAddr0 rfl Try.underlying36 rfl ti9 (by decide)) ?_
    | refine RW.op1 rfl (runs_fieldAddr rfl Try.underlying36 rfl ti9 (by decide)) ?_
  first
    | refine RW.opE0 (runs_store1P ti9 rfl rfl hst (k := 0) rfl rfl (NoFz.zero _) rfl) ?_
    | refine RW.opE0 (runs_store1P ti9 rfl rfl hst (k := 1) rfl rfl (NoFz.zero _) rfl) ?_
    | refine RW.opE0 (runs_store1P ti9 rfl rfl hst (k := 2) rfl rfl (NoFz.zero _) rfl) ?_
  rintro w hstn
  clear hst
  have hst := hstn
  clear hstn
  try simp only [List.set_cons_zero, List.set_cons_succ] at hst
  replace hst : St w0 w _ ((bR, _) :: (b2, Obj.cells #[.int .i64 (numOf (atA av ((0 : Nat) : Int))), .int .i64 (numOf (atA av ((1 : Nat) : Int))), .int .i64 (numOf (atA av ((2 : Nat) : Int))), .string (txtOf (atA av ((3 : Nat) : Int))), .string .empty, .string .empty, .slice none 0 0, .string .empty, .int .i64 0, .int .i64 0, .string .empty, .string .empty, .int .i64 0, .string .empty, .string .empty, .string .empty, .int .i64 0, .int .i64 0, .int .i64 0, .bool false, .string .empty, .string .empty, .int .i64 0, .int .i64 0, .bool false] 36) :: (b1, _) :: L) := hst
  refine RW.done ?_
  refine AQ.next ?_
  refine CW.seq ?_
  -- region 3
  refine CW.region ?_
  refine RW.op1 rfl (runs_move rfl) ?_
  refine RW.call rfl call95 rfl rfl (rd_text_spec (s := (4 : Nat)) hst hv hgood (by omega)) ?_
  rintro e w ⟨bb4, rfl, hb4, hstn⟩
  clear hst
  have hst := hstn
  clear hstn
  refine ⟨_, rfl, ?_⟩
  refine RW.op1 rfl (runs_move rfl) ?_
  refine RW.call rfl call95 rfl rfl (rd_text_spec (s := (5 : Nat)) hst hv hgood (by omega)) ?_
  rintro e w ⟨bb5, rfl, hb5, hstn⟩
  clear hst
  have hst := hstn
  clear hstn
  refine ⟨_, rfl, ?_⟩
  first
    | refine RW.op1 rfl (runs_fieldAddr0 rfl Try.underlying36 rfl ti32 (by decide)) ?_
    | refine RW.op1 rfl (runs_fieldAddr rfl Try.underlying36 rfl ti32 (by decide)) ?_
  first
    | refine RW.op1 rfl (runs_fieldAddr0 rfl Try.underlying32 rfl ti9 (by decide)) ?_
    | refine RW.op1 rfl (runs_fieldAddr rfl Try.underlying32 rfl ti9 (by decide)) ?_
  first
    | refine RW.opE0 (runs_store1P ti9 rfl rfl hst (k := 0) rfl rfl (NoFz.zero _) rfl) ?_
    | refine RW.opE0 (runs_store1P ti9 rfl rfl hst (k := 1) rfl rfl (NoFz.zero _) rfl) ?_
    | refine RW.opE0 (runs_store1P ti9 rfl rfl hst (k := 2) rfl rfl (NoFz.zero _) rfl) ?_
  rintro w hstn
  clear hst
  have hst := hstn
  clear hstn
  try simp only [List.set_cons_zero, List.set_cons_succ] at hst
  first
    | refine RW.op1 rfl (runs_fieldAddr0 rfl Try.underlying36 rfl ti32 (by decide)) ?_
    | refine RW.op1 rfl (runs_fieldAddr rfl Try.underlying36 rfl ti32 (by decide)) ?_
  first
    | refine RW.op1 rfl (runs_fieldAddr0 rfl Try.underlying32 rfl ti9 (by decide)) ?_
    | refine RW.op1 rfl (runs_fieldAddr rfl Try.underlying32 rfl ti9 (by decide)) ?_
  first
    | refine RW.opE0 (runs_store1P ti9 rfl rfl hst (k := 0) rfl rfl (NoFz.zero _) rfl) ?_
    | refine RW.opE0 (runs_store1P ti9 rfl rfl hst (k := 1) rfl rfl (NoFz.zero _) rfl) ?_
    | refine RW.opE0 (runs_store1P ti9 rfl rfl hst (k := 2) rfl rfl (NoFz.zero _) rfl) ?_
  rintro w hstn
  clear hst
  have hst := hstn
  clear hstn
  try simp only [List.set_cons_zero, List.set_cons_succ] at hst
  replace hst : St w0 w _ ((bR, _) :: (b2, Obj.cells #[.int .i64 (numOf (atA av ((0 : Nat) : Int))), .int .i64 (numOf (atA av ((1 : Nat) : Int))), .int .i64 (numOf (atA av ((2 : Nat) : Int))), .string (txtOf (atA av ((3 : Nat) : Int))), .string (txtOf (atA av ((4 : Nat) : Int))), .string (txtOf (atA av ((5 : Nat) : Int))), .slice none 0 0, .string .empty, .int .i64 0, .int .i64 0, .string .empty, .string .empty, .int .i64 0, .string .empty, .string .empty, .string .empty, .int .i64 0, .int .i64 0, .int .i64 0, .bool false, .string .empty, .string .empty, .int .i64 0, .int .i64 0, .bool false] 36) :: (b1, _) :: L) := hst
  refine RW.done ?_
  refine AQ.next ?_
  refine CW.seq ?_
  -- region 4
  refine CW.region ?_
  refine RW.op1 rfl (runs_move rfl) ?_
  refine RW.op1 rfl (runs_move rfl) ?_
  refine RW.call rfl call94 rfl rfl (rd_number_spec (s := (6 : Nat)) hst hv hgood (by omega)) ?_
  rintro e w ⟨bb6, rfl, hb6, hstn⟩
  clear hst
  have hst := hstn
  clear hstn
  have hb7 : bb6 = headBad av := by rw [hb6, hb5, hb4, hb3, hb2, hb1, hb0]; unfold headBad; simp [Bool.not_and, Bool.or_assoc]
  rw [hb7] at hst
  have hrl := readH_le av
  have hs7 : headBad av = false → 7 ≤ av.length := by
    intro h0
    unfold headBad at h0
    simp only [Bool.not_eq_false', Bool.and_eq_true] at h0
    have := is_in (.inl h0.2)
    omega
  refine ⟨_, rfl, ?_⟩
  refine RW.call rfl call96 rfl rfl (rd_heads_spec (s := 7) hst hv hgood _ (numOf_ok (atA_good hgood _)) hs7 (by omega) hlen) ?_
  rintro e w ⟨J27, vh, hJ27, rfl, hvh, hstn⟩
  clear hst
  have hst := hstn
  clear hstn
  obtain ⟨p, bp, hp⟩ : ∃ p b, (readH av).2 = (p, b) := ⟨_, _, rfl⟩
  have hp2 : (rdH av (numOf (atA av ((0 + 1 + 1 + 1 + 1 + 1 + 1 : Nat) : Int))).toNat (7, headBad av)).2 = (p, bp) := hp
  rw [hp2] at hst
  have hvh : RdH J27 vh (readH av).1 := hvh
  rw [hp] at hrl
  dsimp only at hrl hst
  replace hv := hv.mono hJ27
  replace hle := hle.trans hJ27
  refine ⟨_, rfl, ?_⟩
  first
    | refine RW.op1 rfl (runs_fieldAddr0 rfl Try.underlying36 rfl ti32 (by decide)) ?_
    | refine RW.op1 rfl (runs_fieldAddr rfl Try.underlying36 rfl ti32 (by decide)) ?_
  first
    | refine RW.op1 rfl (runs_fieldAddr0 rfl Try.underlying32 rfl ti30 (by decide)) ?_
    | refine RW.op1 rfl (runs_fieldAddr rfl Try.underlying32 rfl ti30 (by decide)) ?_
  refine RW.opE0 (runs_store1P ti30 rfl rfl hst (k := 1) rfl rfl (NoFz.zero _) (RdL.one hvh)) ?_
  rintro w hstn
  clear hst
  have hst := hstn
  clear hstn
  try simp only [List.set_cons_zero, List.set_cons_succ] at hst
  replace hst : St w0 w _ ((bR, _) :: (b2, Obj.cells #[.int .i64 (numOf (atA av ((0 : Nat) : Int))), .int .i64 (numOf (atA av ((1 : Nat) : Int))), .int .i64 (numOf (atA av ((2 : Nat) : Int))), .string (txtOf (atA av ((3 : Nat) : Int))), .string (txtOf (atA av ((4 : Nat) : Int))), .string (txtOf (atA av ((5 : Nat) : Int))), vh, .string .empty, .int .i64 0, .int .i64 0, .string .empty, .string .empty, .int .i64 0, .string .empty, .string .empty, .string .empty, .int .i64 0, .int .i64 0, .int .i64 0, .bool false, .string .empty, .string .empty, .int .i64 0, .int .i64 0, .bool false] 36) :: (b1, _) :: L) := hst
  refine RW.done ?_
  refine AQ.next ?_
  refine CW.seq ?_
  -- region 5
  refine CW.region ?_
  refine RW.op1 rfl (runs_move rfl) ?_
  refine RW.call rfl call95 rfl rfl (rd_text_spec (s := (p : Nat)) hst hv hgood (by omega)) ?_
  rintro e w ⟨bb10, rfl, hb10, hstn⟩
  clear hst
  have hst := hstn
  clear hstn
  refine ⟨_, rfl, ?_⟩
  refine RW.op1 rfl (runs_move rfl) ?_
  refine RW.call rfl call94 rfl rfl (rd_number_spec (s := (p + 1 : Nat)) hst hv hgood (by omega)) ?_
  rintro e w ⟨bb11, rfl, hb11, hstn⟩
  clear hst
  have hst := hstn
  clear hstn
  refine ⟨_, rfl, ?_⟩
  refine RW.op1 rfl (runs_move rfl) ?_
  refine RW.call rfl call94 rfl rfl (rd_number_spec (s := (p + 2 : Nat)) hst hv hgood (by omega)) ?_
  rintro e w ⟨bb12, rfl, hb12, hstn⟩
  clear hst
  have hst := hstn
  clear hstn
  refine ⟨_, rfl, ?_⟩
  first
    | refine RW.op1 rfl (runs_fieldAddr0 rfl Try.underlying36 rfl ti32 (by decide)) ?_
    | refine RW.op1 rfl (runs_fieldAddr rfl Try.underlying36 rfl ti32 (by decide)) ?_
  first
    | refine RW.op1 rfl (runs_fieldAddr0 rfl Try.underlying32 rfl ti9 (by decide)) ?_
    | refine RW.op1 rfl (runs_fieldAddr rfl Try.underlying32 rfl ti9 (by decide)) ?_
  first
    | refine RW.opE0 (runs_store1P ti9 rfl rfl hst (k := 0) rfl rfl (NoFz.zero _) rfl) ?_
    | refine RW.opE0 (runs_store1P ti9 rfl rfl hst (k := 1) rfl rfl (NoFz.zero _) rfl) ?_
    | refine RW.opE0 (runs_store1P ti9 rfl rfl hst (k := 2) rfl rfl (NoFz.zero _) rfl) ?_
  rintro w hstn
  clear hst
  have hst := hstn
  clear hstn
  try simp only [List.set_cons_zero, List.set_cons_succ] at hst
  first
    | refine RW.op1 rfl (runs_fieldAddr0 rfl Try.underlying36 rfl ti32 (by decide)) ?_
    | refine RW.op1 rfl (runs_fieldAddr rfl Try.underlying36 rfl ti32 (by decide)) ?_
  first
    | refine RW.op1 rfl (runs_fieldAddr0 rfl Try.underlying32 rfl ti3 (by decide)) ?_
    | refine RW.op1 rfl (runs_fieldAddr rfl Try.underlying32 rfl ti3 (by decide)) ?_
  first
    | refine RW.opE0 (runs_store1P ti3 rfl rfl hst (k := 0) rfl rfl (NoFz.zero _) rfl) ?_
    | refine RW.opE0 (runs_store1P ti3 rfl rfl hst (k := 1) rfl rfl (NoFz.zero _) rfl) ?_
    | refine RW.opE0 (runs_store1P ti3 rfl rfl hst (k := 2) rfl rfl (NoFz.zero _) rfl) ?_
  rintro w hstn
  clear hst
  have hst := hstn
  clear hstn
  try simp only [List.set_cons_zero, List.set_cons_succ] at hst
  first
    | refine RW.op1 rfl (runs_fieldAddr0 rfl Try.underlying36 rfl ti32 (by decide)) ?_
    | refine RW.op1 rfl (runs_fieldAddr rfl Try.underlying36 rfl ti32 (by decide)) ?_
  first
    | refine RW.op1 rfl (runs_fieldAddr0 rfl Try.underlying32 rfl ti3 (by decide)) ?_
    | refine RW.op1 rfl (runs_fieldAddr rfl Try.underlying32 rfl ti3 (by decide)) ?_
  first
    | refine RW.opE0 (runs_store1P ti3 rfl rfl hst (k := 0) rfl rfl (NoFz.zero _) rfl) ?_
    | refine RW.opE0 (runs_store1P ti3 rfl rfl hst (k := 1) rfl rfl (NoFz.zero _) rfl) ?_
    | refine RW.opE0 (runs_store1P ti3 rfl rfl hst (k := 2) rfl rfl (NoFz.zero _) rfl) ?_
  rintro w hstn
  clear hst
  have hst := hstn
  clear hstn
  try simp only [List.set_cons_zero, List.set_cons_succ] at hst
  replace hst : St w0 w _ ((bR, _) :: (b2, Obj.cells #[.int .i64 (numOf (atA av ((0 : Nat) : Int))), .int .i64 (numOf (atA av ((1 : Nat) : Int))), .int .i64 (numOf (atA av ((2 : Nat) : Int))), .string (txtOf (atA av ((3 : Nat) : Int))), .string (txtOf (atA av ((4 : Nat) : Int))), .string (txtOf (atA av ((5 : Nat) : Int))), vh, .string (txtOf (atA av ((p : Nat) : Int))), .int .i64 (numOf (atA av ((p + 1 : Nat) : Int))), .int .i64 (numOf (atA av ((p + 2 : Nat) : Int))), .string .empty, .string .empty, .int .i64 0, .string .empty, .string .empty, .string .empty, .int .i64 0, .int .i64 0, .int .i64 0, .bool false, .string .empty, .string .empty, .int .i64 0, .int .i64 0, .bool false] 36) :: (b1, _) :: L) := hst
  refine RW.done ?_
  refine AQ.next ?_
  refine CW.seq ?_
  -- region 6
  refine CW.region ?_
  refine RW.op1 rfl (runs_move rfl) ?_
  refine RW.call rfl call95 rfl rfl (rd_text_spec (s := (p + 3 : Nat)) hst hv hgood (by omega)) ?_
  rintro e w ⟨bb13, rfl, hb13, hstn⟩
  clear hst
  have hst := hstn
  clear hstn
  refine ⟨_, rfl, ?_⟩
  refine RW.op1 rfl (runs_move rfl) ?_
  refine RW.call rfl call95 rfl rfl (rd_text_spec (s := (p + 4 : Nat)) hst hv hgood (by omega)) ?_
  rintro e w ⟨bb14, rfl, hb14, hstn⟩
  clear hst
  have hst := hstn
  clear hstn
  refine ⟨_, rfl, ?_⟩
  refine RW.op1 rfl (runs_move rfl) ?_
  refine RW.call rfl call94 rfl rfl (rd_number_spec (s := (p + 5 : Nat)) hst hv hgood (by omega)) ?_
  rintro e w ⟨bb15, rfl, hb15, hstn⟩
  clear hst
  have hst := hstn
  clear hstn
  refine ⟨_, rfl, ?_⟩
  first
    | refine RW.op1 rfl (runs_fieldAddr0 rfl Try.underlying36 rfl ti34 (by decide)) ?_
    | refine RW.op1 rfl (runs_fieldAddr rfl Try.underlying36 rfl ti34 (by decide)) ?_
  first
    | refine RW.op1 rfl (runs_fieldAddr0 rfl Try.underlying34 rfl ti9 (by decide)) ?_
    | refine RW.op1 rfl (runs_fieldAddr rfl Try.underlying34 rfl ti9 (by decide)) ?_
  first
    | refine RW.opE0 (runs_store1P ti9 rfl rfl hst (k := 0) rfl rfl (NoFz.zero _) rfl) ?_
    | refine RW.opE0 (runs_store1P ti9 rfl rfl hst (k := 1) rfl rfl (NoFz.zero _) rfl) ?_
    | refine RW.opE0 (runs_store1P ti9 rfl rfl hst (k := 2) rfl rfl (NoFz.zero _) rfl) ?_
  rintro w hstn
  clear hst
  have hst := hstn
  clear hstn
  try simp only [List.set_cons_zero, List.set_cons_succ] at hst
  first
    | refine RW.op1 rfl (runs_fieldAddr0 rfl Try.underlying36 rfl ti34 (by decide)) ?_
    | refine RW.op1 rfl (runs_fieldAddr rfl Try.underlying36 rfl ti34 (by decide)) ?_
  first
    | refine RW.op1 rfl (runs_fieldAddr0 rfl Try.underlying34 rfl ti9 (by decide)) ?_
    | refine RW.op1 rfl (runs_fieldAddr rfl Try.underlying34 rfl ti9 (by decide)) ?_
  first
    | refine RW.opE0 (runs_store1P ti9 rfl rfl hst (k := 0) rfl rfl (NoFz.zero _) rfl) ?_
    | refine RW.opE0 (runs_store1P ti9 rfl rfl hst (k := 1) rfl rfl (NoFz.zero _) rfl) ?_
    | refine RW.opE0 (runs_store1P ti9 rfl rfl hst (k := 2) rfl rfl (NoFz.zero _) rfl) ?_
  rintro w hstn
  clear hst
  have hst := hstn
  clear hstn
  try simp only [List.set_cons_zero, List.set_cons_succ] at hst
  first
    | refine RW.op1 rfl (runs_fieldAddr0 rfl Try.underlying36 rfl ti34 (by decide)) ?_
    | refine RW.op1 rfl (runs_fieldAddr rfl Try.underlying36 rfl ti34 (by decide)) ?_
  first
    | refine RW.op1 rfl (runs_fieldAddr0 rfl Try.underlying34 rfl ti3 (by decide)) ?_
    | refine RW.op1 rfl (runs_fieldAddr rfl Try.underlying34 rfl ti3 (by decide)) ?_
  first
    | refine RW.opE0 (runs_store1P ti3 rfl rfl hst (k := 0) rfl rfl (NoFz.zero _) rfl) ?_
    | refine RW.opE0 (runs_store1P ti3 rfl rfl hst (k := 1) rfl rfl (NoFz.zero _) rfl) ?_
    | refine RW.opE0 (runs_store1P ti3 rfl rfl hst (k := 2) rfl rfl (NoFz.zero _) rfl) ?_
  rintro w hstn
  clear hst
  have hst := hstn
  clear hstn
  try simp only [List.set_cons_zero, List.set_cons_succ] at hst
  replace hst : St w0 w _ ((bR, _) :: (b2, Obj.cells #[.int .i64 (numOf (atA av ((0 : Nat) : Int))), .int .i64 (numOf (atA av ((1 : Nat) : Int))), .int .i64 (numOf (atA av ((2 : Nat) : Int))), .string (txtOf (atA av ((3 : Nat) : Int))), .string (txtOf (atA av ((4 : Nat) : Int))), .string (txtOf (atA av ((5 : Nat) : Int))), vh, .string (txtOf (atA av ((p : Nat) : Int))), .int .i64 (numOf (atA av ((p + 1 : Nat) : Int))), .int .i64 (numOf (atA av ((p + 2 : Nat) : Int))), .string (txtOf (atA av ((p + 3 : Nat) : Int))), .string (txtOf (atA av ((p + 4 : Nat) : Int))), .int .i64 (numOf (atA av ((p + 5 : Nat) : Int))), .string .empty, .string .empty, .string .empty, .int .i64 0, .int .i64 0, .int .i64 0, .bool false, .string .empty, .string .empty, .int .i64 0, .int .i64 0, .bool false] 36) :: (b1, _) :: L) := hst
  refine RW.done ?_
  refine AQ.next ?_
  refine CW.seq ?_
  -- region 7
  refine CW.region ?_
  refine RW.op1 rfl (runs_move rfl) ?_
  refine RW.call rfl call95 rfl rfl (rd_text_spec (s := (p + 6 : Nat)) hst hv hgood (by omega)) ?_
  rintro e w ⟨bb16, rfl, hb16, hstn⟩
  clear hst
  have hst := hstn
  clear hstn
  refine ⟨_, rfl, ?_⟩
  refine RW.op1 rfl (runs_move rfl) ?_
  refine RW.call rfl call95 rfl rfl (rd_text_spec (s := (p + 7 : Nat)) hst hv hgood (by omega)) ?_
  rintro e w ⟨bb17, rfl, hb17, hstn⟩
  clear hst
  have hst := hstn
  clear hstn
  refine ⟨_, rfl, ?_⟩
  refine RW.op1 rfl (runs_move rfl) ?_
  refine RW.call rfl call95 rfl rfl (rd_text_spec (s := (p + 8 : Nat)) hst hv hgood (by omega)) ?_
  rintro e w ⟨bb18, rfl, hb18, hstn⟩
  clear hst
  have hst := hstn
  clear hstn
  refine ⟨_, rfl, ?_⟩
  first
    | refine RW.op1 rfl (runs_fieldAddr0 rfl Try.underlying36 rfl ti9 (by decide)) ?_
    | refine RW.op1 rfl (runs_fieldAddr rfl Try.underlying36 rfl ti9 (by decide)) ?_
  first
    | refine RW.opE0 (runs_store1P ti9 rfl rfl hst (k := 0) rfl rfl (NoFz.zero _) rfl) ?_
    | refine RW.opE0 (runs_store1P ti9 rfl rfl hst (k := 1) rfl rfl (NoFz.zero _) rfl) ?_
    | refine RW.opE0 (runs_store1P ti9 rfl rfl hst (k := 2) rfl rfl (NoFz.zero _) rfl) ?_
  rintro w hstn
  clear hst
  have hst := hstn
  clear hstn
  try simp only [List.set_cons_zero, List.set_cons_succ] at hst
  first
    | refine RW.op1 rfl (runs_fieldAddr0 rfl Try.underlying36 rfl ti9 (by decide)) ?_
    | refine RW.op1 rfl (runs_fieldAddr rfl Try.underlying36 rfl ti9 (by decide)) ?_
  first
    | refine RW.opE0 (runs_store1P ti9 rfl rfl hst (k := 0) rfl rfl (NoFz.zero _) rfl) ?_
    | refine RW.opE0 (runs_store1P ti9 rfl rfl hst (k := 1) rfl rfl (NoFz.zero _) rfl) ?_
    | refine RW.opE0 (runs_store1P ti9 rfl rfl hst (k := 2) rfl rfl (NoFz.zero _) rfl) ?_
  rintro w hstn
  clear hst
  have hst := hstn
  clear hstn
  try simp only [List.set_cons_zero, List.set_cons_succ] at hst
  first
    | refine RW.op1 rfl (runs_fieldAddr0 rfl Try.underlying36 rfl ti9 (by decide)) ?_
    | refine RW.op1 rfl (runs_fieldAddr rfl Try.underlying36 rfl ti9 (by decide)) ?_
  first
    | refine RW.opE0 (runs_store1P ti9 rfl rfl hst (k := 0) rfl rfl (NoFz.zero _) rfl) ?_
    | refine RW.opE0 (runs_store1P ti9 rfl rfl hst (k := 1) rfl rfl (NoFz.zero _) rfl) ?_
    | refine RW.opE0 (runs_store1P ti9 rfl rfl hst (k := 2) rfl rfl (NoFz.zero _) rfl) ?_
  rintro w hstn
  clear hst
  have hst := hstn
  clear hstn
  try simp only [List.set_cons_zero, List.set_cons_succ] at hst
  replace hst : St w0 w _ ((bR, _) :: (b2, Obj.cells #[.int .i64 (numOf (atA av ((0 : Nat) : Int))), .int .i64 (numOf (atA av ((1 : Nat) : Int))), .int .i64 (numOf (atA av ((2 : Nat) : Int))), .string (txtOf (atA av ((3 : Nat) : Int))), .string (txtOf (atA av ((4 : Nat) : Int))), .string (txtOf (atA av ((5 : Nat) : Int))), vh, .string (txtOf (atA av ((p : Nat) : Int))), .int .i64 (numOf (atA av ((p + 1 : Nat) : Int))), .int .i64 (numOf (atA av ((p + 2 : Nat) : Int))), .string (txtOf (atA av ((p + 3 : Nat) : Int))), .string (txtOf (atA av ((p + 4 : Nat) : Int))), .int .i64 (numOf (atA av ((p + 5 : Nat) : Int))), .string (txtOf (atA av ((p + 6 : Nat) : Int))), .string (txtOf (atA av ((p + 7 : Nat) : Int))), .string (txtOf (atA av ((p + 8 : Nat) : Int))), .int .i64 0, .int .i64 0, .int .i64 0, .bool false, .string .empty, .string .empty, .int .i64 0, .int .i64 0, .bool false] 36) :: (b1, _) :: L) := hst
  refine RW.done ?_
  refine AQ.next ?_
  refine CW.seq ?_
  -- region 8
  refine CW.region ?_
  refine RW.op1 rfl (runs_move rfl) ?_
  refine RW.call rfl call94 rfl rfl (rd_number_spec (s := (p + 9 : Nat)) hst hv hgood (by omega)) ?_
  rintro e w ⟨bb19, rfl, hb19, hstn⟩
  clear hst
  have hst := hstn
  clear hstn
  refine ⟨_, rfl, ?_⟩
  refine RW.op1 rfl (runs_move rfl) ?_
  refine RW.call rfl call94 rfl rfl (rd_number_spec (s := (p + 10 : Nat)) hst hv hgood (by omega)) ?_
  rintro e w ⟨bb20, rfl, hb20, hstn⟩
  clear hst
  have hst := hstn
  clear hstn
  refine ⟨_, rfl, ?_⟩
  refine RW.op1 rfl (runs_move rfl) ?_
  refine RW.call rfl call94 rfl rfl (rd_number_spec (s := (p + 11 : Nat)) hst hv hgood (by omega)) ?_
  rintro e w ⟨bb21, rfl, hb21, hstn⟩
  clear hst
  have hst := hstn
  clear hstn
  refine ⟨_, rfl, ?_⟩
  refine RW.op1 rfl (runs_move rfl) ?_
  refine RW.call rfl call97 rfl rfl (rd_flag_spec (s := (p + 12 : Nat)) hst hv hgood (by omega)) ?_
  rintro e w ⟨bb22, rfl, hb22, hstn⟩
  clear hst
  have hst := hstn
  clear hstn
  refine ⟨_, rfl, ?_⟩
  first
    | refine RW.op1 rfl (runs_fieldAddr0 rfl Try.underlying36 rfl ti3 (by decide)) ?_
    | refine RW.op1 rfl (runs_fieldAddr rfl Try.underlying36 rfl ti3 (by decide)) ?_
  first
    | refine RW.opE0 (runs_store1P ti3 rfl rfl hst (k := 0) rfl rfl (NoFz.zero _) rfl) ?_
    | refine RW.opE0 (runs_store1P ti3 rfl rfl hst (k := 1) rfl rfl (NoFz.zero _) rfl) ?_
    | refine RW.opE0 (runs_store1P ti3 rfl rfl hst (k := 2) rfl rfl (NoFz.zero _) rfl) ?_
  rintro w hstn
  clear hst
  have hst := hstn
  clear hstn
  try simp only [List.set_cons_zero, List.set_cons_succ] at hst
  first
    | refine RW.op1 rfl (runs_fieldAddr0 rfl Try.underlying36 rfl ti3 (by decide)) ?_
    | refine RW.op1 rfl (runs_fieldAddr rfl Try.underlying36 rfl ti3 (by decide)) ?_
  first
    | refine RW.opE0 (runs_store1P ti3 rfl rfl hst (k := 0) rfl rfl (NoFz.zero _) rfl) ?_
    | refine RW.opE0 (runs_store1P ti3 rfl rfl hst (k := 1) rfl rfl (NoFz.zero _) rfl) ?_
    | refine RW.opE0 (runs_store1P ti3 rfl rfl hst (k := 2) rfl rfl (NoFz.zero _) rfl) ?_
  rintro w hstn
  clear hst
  have hst := hstn
  clear hstn
  try simp only [List.set_cons_zero, List.set_cons_succ] at hst
  first
    | refine RW.op1 rfl (runs_fieldAddr0 rfl Try.underlying36 rfl ti3 (by decide)) ?_
    | refine RW.op1 rfl (runs_fieldAddr rfl Try.underlying36 rfl ti3 (by decide)) ?_
  first
    | refine RW.opE0 (runs_store1P ti3 rfl rfl hst (k := 0) rfl rfl (NoFz.zero _) rfl) ?_
    | refine RW.opE0 (runs_store1P ti3 rfl rfl hst (k := 1) rfl rfl (NoFz.zero _) rfl) ?_
    | refine RW.opE0 (runs_store1P ti3 rfl rfl hst (k := 2) rfl rfl (NoFz.zero _) rfl) ?_
  rintro w hstn
  clear hst
  have hst := hstn
  clear hstn
  try simp only [List.set_cons_zero, List.set_cons_succ] at hst
  first
    | refine RW.op1 rfl (runs_fieldAddr0 rfl Try.underlying36 rfl ti4 (by decide)) ?_
    | refine RW.op1 rfl (runs_fieldAddr rfl Try.underlying36 rfl ti4 (by decide)) ?_
  first
    | refine RW.opE0 (runs_store1P ti4 rfl rfl hst (k := 0) rfl rfl (NoFz.zero _) rfl) ?_
    | refine RW.opE0 (runs_store1P ti4 rfl rfl hst (k := 1) rfl rfl (NoFz.zero _) rfl) ?_
    | refine RW.opE0 (runs_store1P ti4 rfl rfl hst (k := 2) rfl rfl (NoFz.zero _) rfl) ?_
  rintro w hstn
  clear hst
  have hst := hstn
  clear hstn
  try simp only [List.set_cons_zero, List.set_cons_succ] at hst
  replace hst : St w0 w _ ((bR, _) :: (b2, Obj.cells #[.int .i64 (numOf (atA av ((0 : Nat) : Int))), .int .i64 (numOf (atA av ((1 : Nat) : Int))), .int .i64 (numOf (atA av ((2 : Nat) : Int))), .string (txtOf (atA av ((3 : Nat) : Int))), .string (txtOf (atA av ((4 : Nat) : Int))), .string (txtOf (atA av ((5 : Nat) : Int))), vh, .string (txtOf (atA av ((p : Nat) : Int))), .int .i64 (numOf (atA av ((p + 1 : Nat) : Int))), .int .i64 (numOf (atA av ((p + 2 : Nat) : Int))), .string (txtOf (atA av ((p + 3 : Nat) : Int))), .string (txtOf (atA av ((p + 4 : Nat) : Int))), .int .i64 (numOf (atA av ((p + 5 : Nat) : Int))), .string (txtOf (atA av ((p + 6 : Nat) : Int))), .string (txtOf (atA av ((p + 7 : Nat) : Int))), .string (txtOf (atA av ((p + 8 : Nat) : Int))), .int .i64 (numOf (atA av ((p + 9 : Nat) : Int))), .int .i64 (numOf (atA av ((p + 10 : Nat) : Int))), .int .i64 (numOf (atA av ((p + 11 : Nat) : Int))), .bool (flgOf (atA av ((p + 12 : Nat) : Int))), .string .empty, .string .empty, .int .i64 0, .int .i64 0, .bool false] 36) :: (b1, _) :: L) := hst
  refine RW.done ?_
  refine AQ.next ?_
  refine CW.seq ?_
  -- region 9
  refine CW.region ?_
  refine RW.op1 rfl (runs_move rfl) ?_
  refine RW.call rfl call95 rfl rfl (rd_text_spec (s := (p + 13 : Nat)) hst hv hgood (by omega)) ?_
  rintro e w ⟨bb23, rfl, hb23, hstn⟩
  clear hst
  have hst := hstn
  clear hstn
  refine ⟨_, rfl, ?_⟩
  refine RW.op1 rfl (runs_move rfl) ?_
  refine RW.call rfl call95 rfl rfl (rd_text_spec (s := (p + 14 : Nat)) hst hv hgood (by omega)) ?_
  rintro e w ⟨bb24, rfl, hb24, hstn⟩
  clear hst
  have hst := hstn
  clear hstn
  refine ⟨_, rfl, ?_⟩
  refine RW.op1 rfl (runs_move rfl) ?_
  refine RW.call rfl call94 rfl rfl (rd_number_spec (s := (p + 15 : Nat)) hst hv hgood (by omega)) ?_
  rintro e w ⟨bb25, rfl, hb25, hstn⟩
  clear hst
  have hst := hstn
  clear hstn
  refine ⟨_, rfl, ?_⟩
  refine RW.op1 rfl (runs_move rfl) ?_
  refine RW.call rfl call94 rfl rfl (rd_number_spec (s := (p + 16 : Nat)) hst hv hgood (by omega)) ?_
  rintro e w ⟨bb26, rfl, hb26, hstn⟩
  clear hst
  have hst := hstn
  clear hstn
  refine ⟨_, rfl, ?_⟩
  refine RW.op1 rfl (runs_move rfl) ?_
  refine RW.call rfl call97 rfl rfl (rd_flag_spec (s := (p + 17 : Nat)) hst hv hgood (by omega)) ?_
  rintro e w ⟨bb27, rfl, hb27, hstn⟩
  clear hst
  have hst := hstn
  clear hstn
  refine ⟨_, rfl, ?_⟩
  first
    | refine RW.op1 rfl (runs_fieldAddr0 rfl Try.underlying36 rfl ti9 (by decide)) ?_
    | refine RW.op1 rfl (runs_fieldAddr rfl Try.underlying36 rfl ti9 (by decide)) ?_
  first
    | refine RW.opE0 (runs_store1P ti9 rfl rfl hst (k := 0) rfl rfl (NoFz.zero _) rfl) ?_
    | refine RW.opE0 (runs_store1P ti9 rfl rfl hst (k := 1) rfl rfl (NoFz.zero _) rfl) ?_
    | refine RW.opE0 (runs_store1P ti9 rfl rfl hst (k := 2) rfl rfl (NoFz.zero _) rfl) ?_
  rintro w hstn
  clear hst
  have hst := hstn
  clear hstn
  try simp only [List.set_cons_zero, List.set_cons_succ] at hst
  first
    | refine RW.op1 rfl (runs_fieldAddr0 rfl Try.underlying36 rfl ti9 (by decide)) ?_
    | refine RW.op1 rfl (runs_fieldAddr rfl Try.underlying36 rfl ti9 (by decide)) ?_
  first
    | refine RW.opE0 (runs_store1P ti9 rfl rfl hst (k := 0) rfl rfl (NoFz.zero _) rfl) ?_
    | refine RW.opE0 (runs_store1P ti9 rfl rfl hst (k := 1) rfl rfl (NoFz.zero _) rfl) ?_
    | refine RW.opE0 (runs_store1P ti9 rfl rfl hst (k := 2) rfl rfl (NoFz.zero _) rfl) ?_
  rintro w hstn
  clear hst
  have hst := hstn
  clear hstn
  try simp only [List.set_cons_zero, List.set_cons_succ] at hst
  first
    | refine RW.op1 rfl (runs_fieldAddr0 rfl Try.underlying36 rfl ti3 (by decide)) ?_
    | refine RW.op1 rfl (runs_fieldAddr rfl Try.underlying36 rfl ti3 (by decide)) ?_
  first
    | refine RW.opE0 (runs_store1P ti3 rfl rfl hst (k := 0) rfl rfl (NoFz.zero _) rfl) ?_
    | refine RW.opE0 (runs_store1P ti3 rfl rfl hst (k := 1) rfl rfl (NoFz.zero _) rfl) ?_
    | refine RW.opE0 (runs_store1P ti3 rfl rfl hst (k := 2) rfl rfl (NoFz.zero _) rfl) ?_
  rintro w hstn
  clear hst
  have hst := hstn
  clear hstn
  try simp only [List.set_cons_zero, List.set_cons_succ] at hst
  first
    | refine RW.op1 rfl (runs_fieldAddr0 rfl Try.underlying36 rfl ti3 (by decide)) ?_
    | refine RW.op1 rfl (runs_fieldAddr rfl Try.underlying36 rfl ti3 (by decide)) ?_
  first
    | refine RW.opE0 (runs_store1P ti3 rfl rfl hst (k := 0) rfl rfl (NoFz.zero _) rfl) ?_
    | refine RW.opE0 (runs_store1P ti3 rfl rfl hst (k := 1) rfl rfl (NoFz.zero _) rfl) ?_
    | refine RW.opE0 (runs_store1P ti3 rfl rfl hst (k := 2) rfl rfl (NoFz.zero _) rfl) ?_
  rintro w hstn
  clear hst
  have hst := hstn
  clear hstn
  try simp only [List.set_cons_zero, List.set_cons_succ] at hst
  first
    | refine RW.op1 rfl (runs_fieldAddr0 rfl Try.underlying36 rfl ti4 (by decide)) ?_
    | refine RW.op1 rfl (runs_fieldAddr rfl Try.underlying36 rfl ti4 (by decide)) ?_
  first
    | refine RW.opE0 (runs_store1P ti4 rfl rfl hst (k := 0) rfl rfl (NoFz.zero _) rfl) ?_
    | refine RW.opE0 (runs_store1P ti4 rfl rfl hst (k := 1) rfl rfl (NoFz.zero _) rfl) ?_
    | refine RW.opE0 (runs_store1P ti4 rfl rfl hst (k := 2) rfl rfl (NoFz.zero _) rfl) ?_
  rintro w hstn
  clear hst
  have hst := hstn
  clear hstn
  try simp only [List.set_cons_zero, List.set_cons_succ] at hst
  replace hst : St w0 w _ ((bR, _) :: (b2, Obj.cells #[.int .i64 (numOf (atA av ((0 : Nat) : Int))), .int .i64 (numOf (atA av ((1 : Nat) : Int))), .int .i64 (numOf (atA av ((2 : Nat) : Int))), .string (txtOf (atA av ((3 : Nat) : Int))), .string (txtOf (atA av ((4 : Nat) : Int))), .string (txtOf (atA av ((5 : Nat) : Int))), vh, .string (txtOf (atA av ((p : Nat) : Int))), .int .i64 (numOf (atA av ((p + 1 : Nat) : Int))), .int .i64 (numOf (atA av ((p + 2 : Nat) : Int))), .string (txtOf (atA av ((p + 3 : Nat) : Int))), .string (txtOf (atA av ((p + 4 : Nat) : Int))), .int .i64 (numOf (atA av ((p + 5 : Nat) : Int))), .string (txtOf (atA av ((p + 6 : Nat) : Int))), .string (txtOf (atA av ((p + 7 : Nat) : Int))), .string (txtOf (atA av ((p + 8 : Nat) : Int))), .int .i64 (numOf (atA av ((p + 9 : Nat) : Int))), .int .i64 (numOf (atA av ((p + 10 : Nat) : Int))), .int .i64 (numOf (atA av ((p + 11 : Nat) : Int))), .bool (flgOf (atA av ((p + 12 : Nat) : Int))), .string (txtOf (atA av ((p + 13 : Nat) : Int))), .string (txtOf (atA av ((p + 14 : Nat) : Int))), .int .i64 (numOf (atA av ((p + 15 : Nat) : Int))), .int .i64 (numOf (atA av ((p + 16 : Nat) : Int))), .bool (flgOf (atA av ((p + 17 : Nat) : Int)))] 36) :: (b1, _) :: L) := hst
  refine RW.done ?_
  refine AQ.next ?_
  refine CW.seq ?_
  -- region 10
  refine CW.region ?_
  have hvo := RdL.one hvh
  have hbq : bb27 = readBad av := by
    rw [hb27, hb26, hb25, hb24, hb23, hb22, hb21, hb20, hb19, hb18, hb17, hb16, hb15, hb14, hb13, hb12, hb11, hb10]
    unfold readBad tailBad
    rw [hp]
    simp only [Bool.not_and, Bool.or_assoc]
  rw [hbq] at hst
  first
    | refine RW.op1 rfl (runs_loadN (vs := _) ag36 ti36 rfl hst (k := 0) rfl rfl rfl) ?_
    | refine RW.op1 rfl (runs_loadN (vs := _) ag36 ti36 rfl hst (k := 1) rfl rfl rfl) ?_
    | refine RW.op1 rfl (runs_loadN (vs := _) ag36 ti36 rfl hst (k := 2) rfl rfl rfl) ?_
  refine RW.opE0 (runs_storeW ti36 rfl rfl hst (k := 2) rfl rfl rfl (NoFz.zero _) (it_one (mkIt av (readH av).1 p) hvo)) ?_
  rintro w hstn
  clear hst
  have hst := hstn
  clear hstn
  try simp only [List.set_cons_zero, List.set_cons_succ] at hst
  refine RW.done ?_
  refine AQ.next ?_
  refine CW.ret ?_
  refine AQ.retS rfl rfl (hst.loadN (vs := [_, _, _, _, _, _, _, _, _, _, _, _, _, _, _, _, _, _, _, _, _, _, _, _, _]) (k := 2) ag36 ti36 rfl rfl rfl) ?_
  have e2 : readIt av = mkIt av (readH av).1 p := by unfold readIt; rw [hp]
  refine ⟨J27, vh, p + 18, hle, by rw [e2]; rfl, hvo, by rw [e2]; exact hvh, ?_⟩
  exact hst.sub (((List.sublist_cons_self _ _).trans (List.sublist_cons_self _ _)).cons_cons _)
theorem decF_facts : ∀ (n : Nat) (b : List UInt8) (av : List AV), decF n b = some av → av.length ≤ b.length ∧ ∀ a ∈ av, a.good 255 false
  | 0, b, av, h => by
    unfold decF at h
    split at h
    · cases h; exact ⟨Nat.zero_le _, by simp⟩
    · cases h
  | n + 1, b, av, h => by
    unfold decF at h
    split at h
    · cases h; exact ⟨Nat.zero_le _, by simp⟩
    · rename_i hb
      cases hd : dec1 b with
      | none => rw [hd] at h; cases h
      | some x =>
        obtain ⟨a, k⟩ := x
        rw [hd] at h
        dsimp only at h
        obtain ⟨r, hr, rfl⟩ := Option.map_eq_some_iff.1 h
        obtain ⟨h1, h2⟩ := decF_facts n _ r hr
        have hk := dec1_pos hd
        have hpos : 0 < b.length := List.length_pos_iff.2 hb
        rw [List.length_drop] at h1
        refine ⟨by rw [List.length_cons]; omega, fun y hy => ?_⟩
        rcases List.mem_cons.1 hy with rfl | hy
        · exact dec1_good hd
        · exact h2 y hy
theorem decA_facts {b : List UInt8} {av : List AV} (h : decA b = some av) : av.length ≤ b.length ∧ ∀ a ∈ av, a.good 255 false := decF_facts _ _ _ h
theorem readIt_ok {m : Nat} {o : Bool} {av : List AV} (h : ∀ a ∈ av, a.good m o) (hl : av.length ≤ 100000000) : ItOk (readIt av) := mkIt_ok h (by have := readH_le av; omega) _
theorem zeroIt_ok : ItOk zeroIt := ⟨by unfold i64ok; decide, by unfold i64ok; decide, by unfold i64ok; decide, by unfold i64ok; decide, by unfold i64ok; decide, by unfold i64ok; decide, by unfold i64ok; decide, by unfold i64ok; decide, by unfold i64ok; decide, by unfold i64ok; decide, by unfold i64ok; decide, Nat.zero_le _⟩
theorem decIt_of {b : List UInt8} {av : List AV} (h : decA b = some av) : decIt b = if (!readBad av && encOk (itAV (readIt av)) && (encA (itAV (readIt av)) == b)) = true then some (readIt av) else none := by
  unfold decIt
  rw [h]
  dsimp only
  by_cases h1 : readBad av = false ∧ encOk (itAV (readIt av)) = true ∧ encA (itAV (readIt av)) = b
  · rw [if_pos h1, if_pos (by rw [h1.1, h1.2.1]; simpa using h1.2.2)]
  · rw [if_neg h1, if_neg (fun h2 => h1 (by simpa [and_assoc] using h2))]
set_option maxRecDepth 100000 in
set_option maxHeartbeats 4000000 in
theorem itdec_spec {w0 w : World} {I : Imm} {L : Own} (hst : St w0 w I L) {v : Value} {b : List UInt8} (hv : RdB I v b) (hlen : b.length ≤ 100000000) :
    Calls Try.prog 50 #[v] w fun e w' => ∃ I' it vh, I.le I' ∧ e = .returned (.tuple #[itv it vh, .int .i64 (if (decIt b).isSome then 0 else 2)]) ∧ vh.oneCell' = true ∧ RdH I' vh it.heads ∧ ItOk it ∧ it = (decIt b).getD zeroIt ∧ St w0 w' I' L := by
  refine enter Try.func50 rfl (N := 44) rfl rfl ?_
  simp only [List.zipIdx_cons, List.zipIdx_nil, List.map_cons, List.map_nil, Nat.zero_add, Nat.reduceAdd]
  have hle := Imm.le.refl I
  refine CW.seq ?_
  -- region 0
  refine CW.region ?_
  refine RW.opE rfl (runs_alloc ti36 hst) ?_
  rintro _ w ⟨b1, rfl, hstn⟩
  clear hst
  have hst := hstn
  clear hstn
  refine RW.op1 rfl (runs_assign rfl) ?_
  refine RW.done ?_
  refine AQ.next ?_
  refine CW.seq ?_
  -- region 1
  refine CW.region ?_
  refine RW.op1 rfl (runs_move rfl) ?_
  refine RW.call rfl call28 rfl rfl (dec_spec hst hv hlen) ?_
  rintro e w ⟨J12, v12, hJ12, rfl, hstn, hv12⟩
  clear hst
  have hst := hstn
  clear hstn
  replace hv := hv.mono hJ12
  replace hle := hle.trans hJ12
  refine ⟨_, rfl, ?_⟩
  refine RW.op1 rfl (runs_move rfl) ?_
  refine RW.op1 rfl (runs_extract rfl rfl) ?_
  refine RW.op1 rfl (runs_extract rfl rfl) ?_
  refine RW.op1 rfl (runs_assign rfl) ?_
  refine RW.op1 rfl (runs_assign rfl) ?_
  refine RW.done ?_
  refine AQ.next ?_
  refine CW.seq ?_
  refine CW.seq ?_
  -- region 2
  refine CW.region ?_
  refine RW.op1 rfl (runs_move rfl) ?_
  refine RW.op1 rfl (runs_neI rfl rfl) ?_
  refine RW.done ?_
  refine AQ.next ?_
  refine CW.cond rfl (fun hc16 => ?_) (fun hc16 => ?_)
  · have hcb16 := hc16
    try simp only [decide_eq_true_eq, decide_eq_false_iff_not] at hc16
    have hdn : decA b = none := by
      cases h : decA b with
      | none => rfl
      | some av => rw [h] at hcb16; simp at hcb16
    refine CW.seq ?_
    -- region 3
    refine CW.region ?_
    refine RW.op1 rfl (runs_buildF (cells := [_, _, _, _, _, _, _, _, _, _, _, _, _, _, _, _, _, _, _, _, _, _, _, _, _]) bz36 rfl rfl rfl rfl rfl) ?_
    first
      | refine RW.opE0 (runs_storeW ti36 rfl rfl hst (k := 0) rfl rfl rfl (NoFz.zero _) rfl) ?_
      | refine RW.opE0 (runs_storeP ti36 rfl rfl hst (k := 0) rfl rfl rfl (NoFz.zero _) rfl) ?_
      | refine RW.opE0 (runs_storeW ti36 rfl rfl hst (k := 1) rfl rfl rfl (NoFz.zero _) rfl) ?_
      | refine RW.opE0 (runs_storeP ti36 rfl rfl hst (k := 1) rfl rfl rfl (NoFz.zero _) rfl) ?_
      | refine RW.opE0 (runs_storeW ti36 rfl rfl hst (k := 2) rfl rfl rfl (NoFz.zero _) rfl) ?_
      | refine RW.opE0 (runs_storeP ti36 rfl rfl hst (k := 2) rfl rfl rfl (NoFz.zero _) rfl) ?_
    rintro w hstn
    clear hst
    have hst := hstn
    clear hstn
    try simp only [List.set_cons_zero, List.set_cons_succ] at hst
    refine RW.op1 rfl (runs_assign rfl) ?_
    refine RW.done ?_
    refine AQ.next ?_
    refine CW.ret ?_
    refine AQ.past_ret ?_
    refine AQ.retL (rs := [.cell 2 36, .tmp 3]) (vs := [_, _]) rfl ⟨⟨_, rfl, hst.loadN (vs := [_, _, _, _, _, _, _, _, _, _, _, _, _, _, _, _, _, _, _, _, _, _, _, _, _]) (k := 0) ag36 ti36 rfl rfl rfl⟩, rfl, trivial⟩ (by simp) ?_
    have hdn2 : decIt b = none := by unfold decIt; rw [hdn]
    exact ⟨J12, zeroIt, .slice none 0 0, hle, by rw [hdn2]; rfl, rfl, RdH.nil _, zeroIt_ok, by rw [hdn2]; rfl, hst.drop1⟩
  · have hcb16 := hc16
    try simp only [decide_eq_true_eq, decide_eq_false_iff_not] at hc16
    obtain ⟨av, hda⟩ : ∃ av, decA b = some av := by
      cases h : decA b with
      | none => rw [h] at hcb16; simp at hcb16
      | some av => exact ⟨av, rfl⟩
    obtain ⟨hal, hgood⟩ := decA_facts hda
    rw [hda, Option.getD_some] at hv12
    obtain ⟨A12, c12, rfl⟩ : ∃ A c, v12 = .slice A av.length c := by obtain ⟨_, _, A, c, e, _⟩ := hv12; exact ⟨A, c, e⟩
    have hro := readIt_ok hgood (by omega)
    refine CW.skip ?_
    refine AQ.next ?_
    refine CW.seq ?_
    -- region 4
    refine CW.region ?_
    refine RW.op1 rfl (runs_move rfl) ?_
    refine RW.op1 rfl (runs_buildF (cells := [_, _, _]) bz124 rfl rfl rfl rfl rfl) ?_
    refine RW.opE rfl (runs_box rfl hst) ?_
    rintro _ w ⟨b4, rfl, hstn⟩
    clear hst
    have hst := hstn
    clear hstn
    refine RW.op1 rfl (runs_assign rfl) ?_
    refine RW.done ?_
    refine AQ.next ?_
    refine CW.seq ?_
    -- region 5
    refine CW.region ?_
    refine RW.op1 rfl (runs_move rfl) ?_
    refine RW.call rfl call74 rfl rfl (rd_read_spec hst hv12 hgood (by omega)) ?_
    rintro e w ⟨J22, vh, p, hJ22, rfl, hone, hvh, hstn⟩
    clear hst
    have hst := hstn
    clear hstn
    replace hv := hv.mono hJ22
    replace hv12 := hv12.mono hJ22
    replace hle := hle.trans hJ22
    refine ⟨_, rfl, ?_⟩
    refine RW.opE rfl (runs_alloc ti36 hst) ?_
    rintro _ w ⟨b6, rfl, hstn⟩
    clear hst
    have hst := hstn
    clear hstn
    refine RW.opE0 (runs_storeW ti36 rfl rfl hst (k := 0) rfl rfl rfl (NoFz.zero _) (it_one _ hone)) ?_
    rintro w hstn
    clear hst
    have hst := hstn
    clear hstn
    try simp only [List.set_cons_zero, List.set_cons_succ] at hst
    refine RW.done ?_
    refine AQ.next ?_
    refine CW.seq ?_
    refine CW.seq ?_
    -- region 6
    refine CW.region ?_
    refine RW.op1 rfl (runs_loadN (vs := [.int .i64 (readIt av).id, .int .i64 (readIt av).kind, .int .i64 (readIt av).group, .string (readIt av).name, .string (readIt av).method, .string (readIt av).url, vh, .string (readIt av).body, .int .i64 (readIt av).mode, .int .i64 (readIt av).creds, .string (readIt av).page, .string (readIt av).csp, .int .i64 (readIt av).refer, .string (readIt av).nurl, .string (readIt av).nmethod, .string (readIt av).nbody, .int .i64 (readIt av).hops, .int .i64 (readIt av).tries, .int .i64 (readIt av).til, .bool (readIt av).tainted, .string (readIt av).got, .string (readIt av).tag, .int .i64 (readIt av).state, .int .i64 (readIt av).code, .bool (readIt av).acked]) ag36 ti36 rfl hst (k := 0) rfl rfl rfl) ?_
    refine RW.call rfl call41 rfl rfl (itenc_spec hst hvh hro) ?_
    rintro e w ⟨J25, v25, hJ25, rfl, hstn, hv25⟩
    clear hst
    have hst := hstn
    clear hstn
    replace hv := hv.mono hJ25
    replace hv12 := hv12.mono hJ25
    replace hvh := hvh.mono hJ25
    replace hle := hle.trans hJ25
    refine ⟨_, rfl, ?_⟩
    refine RW.op1 rfl (runs_move rfl) ?_
    refine RW.op1 rfl (runs_extract rfl rfl) ?_
    refine RW.op1 rfl (runs_extract rfl rfl) ?_
    refine RW.op1 rfl (runs_assign rfl) ?_
    refine RW.op1 rfl (runs_assign rfl) ?_
    refine RW.done ?_
    refine AQ.next ?_
    refine CW.seq ?_
    -- region 7
    refine CW.cut Unit (fun _ w => St w0 w J25 ((b6, Obj.cells #[.int .i64 (readIt av).id, .int .i64 (readIt av).kind, .int .i64 (readIt av).group, .string (readIt av).name, .string (readIt av).method, .string (readIt av).url, vh, .string (readIt av).body, .int .i64 (readIt av).mode, .int .i64 (readIt av).creds, .string (readIt av).page, .string (readIt av).csp, .int .i64 (readIt av).refer, .string (readIt av).nurl, .string (readIt av).nmethod, .string (readIt av).nbody, .int .i64 (readIt av).hops, .int .i64 (readIt av).tries, .int .i64 (readIt av).til, .bool (readIt av).tainted, .string (readIt av).got, .string (readIt av).tag, .int .i64 (readIt av).state, .int .i64 (readIt av).code, .bool (readIt av).acked] 36) :: (b4, Obj.cells #[.slice A12 av.length c12, .int .i64 ((p : Nat) : Int), .bool (readBad av)] 124) :: (b1, (Value.agg #[.int .i64 0, .int .i64 0, .int .i64 0, .string .empty, .string .empty, .string .empty, .slice none 0 0, .string .empty, .int .i64 0, .int .i64 0, .string .empty, .string .empty, .int .i64 0, .string .empty, .string .empty, .string .empty, .int .i64 0, .int .i64 0, .int .i64 0, .bool false, .string .empty, .string .empty, .int .i64 0, .int .i64 0, .bool false]).cells |> fun cs => Obj.cells cs 36) :: L)) (fun _ => [(2, .pointer (some ⟨b1, 0, none⟩)), (7, .pointer (some ⟨b6, 0, none⟩)), (41, .bool (!(!readBad av && encOk (itAV (readIt av)) && (encA (itAV (readIt av)) == b))))]) ?_ ?_
    · -- region 7
      refine CW.region ?_
      refine RW.op1 rfl (runs_move rfl) ?_
      refine RW.op1 rfl (runs_nilCheck rfl) ?_
      first
        | refine RW.op1 rfl (runs_fieldAddr0 rfl Try.underlying124 rfl ti4 (by decide)) ?_
        | refine RW.op1 rfl (runs_fieldAddr rfl Try.underlying124 rfl ti4 (by decide)) ?_
      first
        | refine RW.op1 rfl (runs_load1 sc4 rfl (hst.cell_own (k := 0) rfl rfl)) ?_
        | refine RW.op1 rfl (runs_load1 sc4 rfl (hst.cell_own (k := 1) rfl rfl)) ?_
        | refine RW.op1 rfl (runs_load1 sc4 rfl (hst.cell_own (k := 2) rfl rfl)) ?_
      refine RW.op1 rfl (runs_move rfl) ?_
      refine RW.split (t := 32) rfl (fun hb32 => ?_) (fun hb32 => ?_)
      · have hb32p := hb32
        try simp only [decide_eq_true_eq, decide_eq_false_iff_not] at hb32p
        refine RW.off_guard rfl rfl rfl rfl hb32 ?_
        refine RW.off_guard rfl rfl rfl rfl hb32 ?_
        refine RW.op1 rfl (runs_pick_true rfl hb32 rfl) ?_
        refine RW.op1 rfl (runs_move rfl) ?_
        refine RW.off_guard rfl rfl rfl rfl rfl ?_
        refine RW.off_guard rfl rfl rfl rfl rfl ?_
        refine RW.off_guard rfl rfl rfl rfl rfl ?_
        refine RW.off_guard rfl rfl rfl rfl rfl ?_
        refine RW.op1 rfl (runs_pick_true rfl rfl rfl) ?_
        refine RW.done ?_
        exact AQ.meet () hst ⟨rfl, rfl, congrArg (fun z => some (Value.bool z)) (by
            first
              | (rw [hb32]; rfl)
              | (have ho : encOk (itAV (readIt av)) = false := by
                   cases h : encOk (itAV (readIt av)) with
                   | false => rfl
                   | true => rw [h] at hb36; simp at hb36
                 rw [ho, hb32]; rfl)
              | (have ho : encOk (itAV (readIt av)) = true := by
                   cases h : encOk (itAV (readIt av)) with
                   | true => rfl
                   | false => rw [h] at hb36; simp at hb36
                 rw [ho, hb32]; simp)), trivial⟩
      · have hb32p := hb32
        try simp only [decide_eq_true_eq, decide_eq_false_iff_not] at hb32p
        refine RW.on_guard rfl rfl rfl rfl hb32 ?_
        refine RW.op1 rfl (runs_move rfl) ?_
        refine RW.on_guard rfl rfl rfl rfl hb32 ?_
        refine RW.op1 rfl (runs_neI rfl rfl) ?_
        refine RW.op1 rfl (runs_pick_false rfl hb32 rfl) ?_
        refine RW.op1 rfl (runs_move rfl) ?_
        refine RW.split (t := 36) rfl (fun hb36 => ?_) (fun hb36 => ?_)
        · have hb36p := hb36
          try simp only [decide_eq_true_eq, decide_eq_false_iff_not] at hb36p
          refine RW.off_guard rfl rfl rfl rfl hb36 ?_
          refine RW.off_guard rfl rfl rfl rfl hb36 ?_
          refine RW.off_guard rfl rfl rfl rfl hb36 ?_
          refine RW.off_guard rfl rfl rfl rfl hb36 ?_
          refine RW.op1 rfl (runs_pick_true rfl hb36 rfl) ?_
          refine RW.done ?_
          exact AQ.meet () hst ⟨rfl, rfl, congrArg (fun z => some (Value.bool z)) (by
              first
                | (rw [hb32]; rfl)
                | (have ho : encOk (itAV (readIt av)) = false := by
                     cases h : encOk (itAV (readIt av)) with
                     | false => rfl
                     | true => rw [h] at hb36; simp at hb36
                   rw [ho, hb32]; rfl)
                | (have ho : encOk (itAV (readIt av)) = true := by
                     cases h : encOk (itAV (readIt av)) with
                     | true => rfl
                     | false => rw [h] at hb36; simp at hb36
                   rw [ho, hb32]; simp)), trivial⟩
        · have hb36p := hb36
          try simp only [decide_eq_true_eq, decide_eq_false_iff_not] at hb36p
          refine RW.on_guard rfl rfl rfl rfl hb36 ?_
          refine RW.op1 rfl (runs_move rfl) ?_
          refine RW.on_guard rfl rfl rfl rfl hb36 ?_
          refine RW.op1 rfl (runs_move rfl) ?_
          refine RW.on_guard rfl rfl rfl rfl hb36 ?_
          refine RW.call rfl call51 rfl rfl (bequal_spec hst hv25 hv) ?_
          rintro e w ⟨rfl, hstn⟩
          clear hst
          have hst := hstn
          clear hstn
          refine ⟨_, rfl, ?_⟩
          refine RW.on_guard rfl rfl rfl rfl hb36 ?_
          refine RW.op1 rfl (runs_not rfl) ?_
          refine RW.op1 rfl (runs_pick_false rfl hb36 rfl) ?_
          refine RW.done ?_
          exact AQ.meet () hst ⟨rfl, rfl, congrArg (fun z => some (Value.bool z)) (by
              first
                | (rw [hb32]; rfl)
                | (have ho : encOk (itAV (readIt av)) = false := by
                     cases h : encOk (itAV (readIt av)) with
                     | false => rfl
                     | true => rw [h] at hb36; simp at hb36
                   rw [ho, hb32]; rfl)
                | (have ho : encOk (itAV (readIt av)) = true := by
                     cases h : encOk (itAV (readIt av)) with
                     | true => rfl
                     | false => rw [h] at hb36; simp at hb36
                   rw [ho, hb32]; simp)), trivial⟩
    · clear hst
      rintro _ w hst
      refine AQ.next ?_
      refine CW.cond rfl (fun hc41 => ?_) (fun hc41 => ?_)
      · have hcb41 := hc41
        try simp only [decide_eq_true_eq, decide_eq_false_iff_not] at hc41
        have hdn : decIt b = none := by
          rw [decIt_of hda, if_neg (by intro h; rw [h] at hcb41; cases hcb41)]
        refine CW.seq ?_
        -- region 8
        refine CW.region ?_
        refine RW.op1 rfl (runs_buildF (cells := [_, _, _, _, _, _, _, _, _, _, _, _, _, _, _, _, _, _, _, _, _, _, _, _, _]) bz36 rfl rfl rfl rfl rfl) ?_
        first
          | refine RW.opE0 (runs_storeW ti36 rfl rfl hst (k := 0) rfl rfl rfl (NoFz.zero _) rfl) ?_
          | refine RW.opE0 (runs_storeP ti36 rfl rfl hst (k := 0) rfl rfl rfl (NoFz.zero _) rfl) ?_
          | refine RW.opE0 (runs_storeW ti36 rfl rfl hst (k := 1) rfl rfl rfl (NoFz.zero _) rfl) ?_
          | refine RW.opE0 (runs_storeP ti36 rfl rfl hst (k := 1) rfl rfl rfl (NoFz.zero _) rfl) ?_
          | refine RW.opE0 (runs_storeW ti36 rfl rfl hst (k := 2) rfl rfl rfl (NoFz.zero _) rfl) ?_
          | refine RW.opE0 (runs_storeP ti36 rfl rfl hst (k := 2) rfl rfl rfl (NoFz.zero _) rfl) ?_
        rintro w hstn
        clear hst
        have hst := hstn
        clear hstn
        try simp only [List.set_cons_zero, List.set_cons_succ] at hst
        refine RW.op1 rfl (runs_assign rfl) ?_
        refine RW.done ?_
        refine AQ.next ?_
        refine CW.ret ?_
        refine AQ.past_ret ?_
        refine AQ.retL (rs := [.cell 2 36, .tmp 3]) (vs := [_, _]) rfl ⟨⟨_, rfl, hst.loadN (vs := [_, _, _, _, _, _, _, _, _, _, _, _, _, _, _, _, _, _, _, _, _, _, _, _, _]) (k := 2) ag36 ti36 rfl rfl rfl⟩, rfl, trivial⟩ (by simp) ?_
        exact ⟨J25, zeroIt, .slice none 0 0, hle, by rw [hdn]; rfl, rfl, RdH.nil _, zeroIt_ok, by rw [hdn]; rfl, hst.drop1.drop1.drop1⟩
      · have hcb41 := hc41
        try simp only [decide_eq_true_eq, decide_eq_false_iff_not] at hc41
        have hdn : decIt b = some (readIt av) := by
          rw [decIt_of hda, if_pos (by simpa using hcb41)]
        refine CW.skip ?_
        refine AQ.next ?_
        refine CW.seq ?_
        -- region 9
        refine CW.region ?_
        refine RW.op1 rfl (runs_loadN (vs := [.int .i64 (readIt av).id, .int .i64 (readIt av).kind, .int .i64 (readIt av).group, .string (readIt av).name, .string (readIt av).method, .string (readIt av).url, vh, .string (readIt av).body, .int .i64 (readIt av).mode, .int .i64 (readIt av).creds, .string (readIt av).page, .string (readIt av).csp, .int .i64 (readIt av).refer, .string (readIt av).nurl, .string (readIt av).nmethod, .string (readIt av).nbody, .int .i64 (readIt av).hops, .int .i64 (readIt av).tries, .int .i64 (readIt av).til, .bool (readIt av).tainted, .string (readIt av).got, .string (readIt av).tag, .int .i64 (readIt av).state, .int .i64 (readIt av).code, .bool (readIt av).acked]) ag36 ti36 rfl hst (k := 0) rfl rfl rfl) ?_
        refine RW.opE0 (runs_storeW ti36 rfl rfl hst (k := 2) rfl rfl rfl (NoFz.zero _) (it_one _ hone)) ?_
        rintro w hstn
        clear hst
        have hst := hstn
        clear hstn
        try simp only [List.set_cons_zero, List.set_cons_succ] at hst
        refine RW.op1 rfl (runs_assign rfl) ?_
        refine RW.done ?_
        refine AQ.next ?_
        refine CW.ret ?_
        refine AQ.retL (rs := [.cell 2 36, .tmp 3]) (vs := [_, _]) rfl ⟨⟨_, rfl, hst.loadN (vs := [_, _, _, _, _, _, _, _, _, _, _, _, _, _, _, _, _, _, _, _, _, _, _, _, _]) (k := 2) ag36 ti36 rfl rfl rfl⟩, rfl, trivial⟩ (by simp) ?_
        exact ⟨J25, readIt av, vh, hle, by rw [hdn]; rfl, hone, hvh, hro, by rw [hdn]; rfl, hst.drop1.drop1.drop1⟩
end Go.Proofs.YtlmmpcdjkpibcaaX
