/- Texts cut at a byte, behind a beginning: what these come to. -/
import Derived.Test.YtfjghkmapccjhaaDoorT
import Derived.Test.YtfjghkmapccjhaaDoorQ1
import Derived.Test.YtfjghkmapccjhaaDoorXG
namespace Go.Proofs.YtfjghkmapccjhaaDoorX
set_option linter.unusedVariables false
set_option linter.unusedSimpArgs false
open Go Go.RowKit Go.Proofs

theorem extract_list {s : ByteArray} {i j : Nat} : (s.extract i j).toList = (s.toList.drop i).take (j - i) := by
  rw [ByteArray.toList_eq, ByteArray.toList_eq, ByteArray.data_extract, Array.toList_extract, List.extract_eq_take_drop]
def preS (s p : ByteArray) : Bool := decide ((p.size : Int) ≤ s.size) && ((s.extract 0 p.size).toList == p.toList)
def oneS (c : UInt8) : ByteArray := ⟨#[c]⟩
theorem idx_self (c : UInt8) : idxB [c] c = 0 := by
  unfold idxB Lib.indexByte
  simp
theorem oneS_list (c : UInt8) : (oneS c).toList = [c] := by rw [ByteArray.toList_eq]; rfl
set_option maxRecDepth 100000 in
set_option maxHeartbeats 1000000 in
theorem hasPrefix0_spec {w0 w : World} {I : Imm} {L : Own} (hst : St w0 w I L) (s p : ByteArray) (hs : s.size ≤ 9223372036854775807) (hp : p.size ≤ 9223372036854775807) :
    Calls Tryd.prog 54 #[.string s, .string p] w fun e w' => e = .returned (.bool (preS s p)) ∧ St w0 w' I L := by
  refine enter Tryd.func54 rfl (N := 18) rfl rfl ?_
  simp only [List.zipIdx_cons, List.zipIdx_nil, List.map_cons, List.map_nil, Nat.zero_add, Nat.reduceAdd]
  have hle := Imm.le.refl I
  refine CW.seq ?_
  -- region 0
  refine CW.region ?_
  refine RW.op1 rfl (runs_assign rfl) ?_
  refine RW.done ?_
  refine AQ.next ?_
  refine CW.seq ?_
  -- region 1
  refine CW.region ?_
  refine RW.op1 rfl (runs_move rfl) ?_
  refine RW.op1 rfl (runs_lenS Tryd.underlying9 rfl) ?_
  refine RW.op1 rfl (runs_move rfl) ?_
  refine RW.op1 rfl (runs_lenS Tryd.underlying9 rfl) ?_
  refine RW.op1 rfl (runs_geq rfl rfl) ?_
  refine RW.op1 rfl (runs_move rfl) ?_
  refine RW.split (t := 10) rfl (fun hb10 => ?_) (fun hb10 => ?_)
  · have hb10p := hb10
    try simp only [decide_eq_true_eq, decide_eq_false_iff_not] at hb10p
    refine RW.on_guard rfl rfl rfl rfl hb10 ?_
    refine RW.op1 rfl (runs_move rfl) ?_
    refine RW.on_guard rfl rfl rfl rfl hb10 ?_
    refine RW.op1 rfl (runs_move rfl) ?_
    refine RW.on_guard rfl rfl rfl rfl hb10 ?_
    refine RW.op1 rfl (runs_lenS Tryd.underlying9 rfl) ?_
    refine RW.on_guard rfl rfl rfl rfl hb10 ?_
    refine RW.op1 rfl (runs_sliceS_h Tryd.underlying9 rfl rfl (by omega)) ?_
    refine RW.on_guard rfl rfl rfl rfl hb10 ?_
    refine RW.op1 rfl (runs_move rfl) ?_
    refine RW.on_guard rfl rfl rfl rfl hb10 ?_
    refine RW.op1 rfl (runs_eqS rfl rfl) ?_
    refine RW.op1 rfl (runs_pick_true rfl hb10 rfl) ?_
    refine RW.op1 rfl (runs_assign rfl) ?_
    refine RW.done ?_
    refine AQ.next ?_
    refine CW.ret ?_
    refine AQ.ret1 rfl rfl ?_
    refine ⟨?_, hst⟩
    unfold preS
    simp only [hb10p, decide_true, Bool.true_and, Int.toNat_natCast]
  · have hb10p := hb10
    try simp only [decide_eq_true_eq, decide_eq_false_iff_not] at hb10p
    refine RW.off_guard rfl rfl rfl rfl hb10 ?_
    refine RW.off_guard rfl rfl rfl rfl hb10 ?_
    refine RW.off_guard rfl rfl rfl rfl hb10 ?_
    refine RW.off_guard rfl rfl rfl rfl hb10 ?_
    refine RW.off_guard rfl rfl rfl rfl hb10 ?_
    refine RW.off_guard rfl rfl rfl rfl hb10 ?_
    refine RW.op1 rfl (runs_pick_false rfl hb10 rfl) ?_
    refine RW.op1 rfl (runs_assign rfl) ?_
    refine RW.done ?_
    refine AQ.next ?_
    refine CW.ret ?_
    refine AQ.ret1 rfl rfl ?_
    refine ⟨?_, hst⟩
    unfold preS
    simp only [hb10p, decide_false, Bool.false_and]
set_option maxRecDepth 100000 in
set_option maxHeartbeats 1000000 in
theorem cutPrefix0_spec {w0 w : World} {I : Imm} {L : Own} (hst : St w0 w I L) (s p : ByteArray) (hs : s.size ≤ 9223372036854775807) (hp : p.size ≤ 9223372036854775807) :
    Calls Tryd.prog 44 #[.string s, .string p] w fun e w' => e = .returned (.tuple #[.string (if preS s p = true then s.extract p.size s.size else s), .bool (preS s p)]) ∧ St w0 w' I L := by
  refine enter Tryd.func44 rfl (N := 15) rfl rfl ?_
  simp only [List.zipIdx_cons, List.zipIdx_nil, List.map_cons, List.map_nil, Nat.zero_add, Nat.reduceAdd]
  have hle := Imm.le.refl I
  refine CW.seq ?_
  -- region 0
  refine CW.region ?_
  refine RW.op1 rfl (runs_assign rfl) ?_
  refine RW.op1 rfl (runs_assign rfl) ?_
  refine RW.done ?_
  refine AQ.next ?_
  refine CW.seq ?_
  refine CW.seq ?_
  -- region 1
  refine CW.region ?_
  refine RW.op1 rfl (runs_move rfl) ?_
  refine RW.op1 rfl (runs_move rfl) ?_
  refine RW.call rfl call54 rfl rfl (hasPrefix0_spec hst s p hs hp) ?_
  rintro e w ⟨rfl, hstn⟩
  clear hst
  have hst := hstn
  clear hstn
  refine ⟨_, rfl, ?_⟩
  refine RW.op1 rfl (runs_not rfl) ?_
  refine RW.done ?_
  refine AQ.next ?_
  refine CW.cond rfl (fun hc9 => ?_) (fun hc9 => ?_)
  · have hcb9 := hc9
    try simp only [decide_eq_true_eq, decide_eq_false_iff_not] at hc9
    have hp0 : preS s p = false := by simpa using hc9
    refine CW.seq ?_
    -- region 2
    refine CW.region ?_
    refine RW.op1 rfl (runs_move rfl) ?_
    refine RW.op1 rfl (runs_assign rfl) ?_
    refine RW.op1 rfl (runs_assign rfl) ?_
    refine RW.done ?_
    refine AQ.next ?_
    refine CW.ret ?_
    refine AQ.past_ret ?_
    refine AQ.ret2 rfl rfl rfl ?_
    rw [hp0]
    exact ⟨rfl, hst⟩
  · have hcb9 := hc9
    try simp only [decide_eq_true_eq, decide_eq_false_iff_not] at hc9
    have hp0 : preS s p = true := by simpa using hc9
    have hpl : (p.size : Int) ≤ s.size := by
      unfold preS at hp0
      simp at hp0
      omega
    refine CW.skip ?_
    refine AQ.next ?_
    refine CW.seq ?_
    -- region 3
    refine CW.region ?_
    refine RW.op1 rfl (runs_move rfl) ?_
    refine RW.op1 rfl (runs_move rfl) ?_
    refine RW.op1 rfl (runs_lenS Tryd.underlying9 rfl) ?_
    refine RW.op1 rfl (runs_sliceS_l Tryd.underlying9 rfl rfl (by omega)) ?_
    refine RW.op1 rfl (runs_assign rfl) ?_
    refine RW.op1 rfl (runs_assign rfl) ?_
    refine RW.done ?_
    refine AQ.next ?_
    refine CW.ret ?_
    refine AQ.ret2 rfl rfl rfl ?_
    rw [hp0]
    exact ⟨rfl, hst⟩
set_option maxRecDepth 100000 in
set_option maxHeartbeats 1000000 in
theorem cutPrefix_spec {w0 w : World} {I : Imm} {L : Own} (hst : St w0 w I L) (s p : ByteArray) (hs : s.size ≤ 9223372036854775807) (hp : p.size ≤ 9223372036854775807) :
    Calls Tryd.prog 38 #[.string s, .string p] w fun e w' => e = .returned (.tuple #[.string (if preS s p = true then s.extract p.size s.size else s), .bool (preS s p)]) ∧ St w0 w' I L := by
  refine enter Tryd.func38 rfl (N := 11) rfl rfl ?_
  simp only [List.zipIdx_cons, List.zipIdx_nil, List.map_cons, List.map_nil, Nat.zero_add, Nat.reduceAdd]
  have hle := Imm.le.refl I
  refine CW.seq ?_
  -- region 0
  refine CW.region ?_
  refine RW.op1 rfl (runs_assign rfl) ?_
  refine RW.op1 rfl (runs_assign rfl) ?_
  refine RW.done ?_
  refine AQ.next ?_
  refine CW.seq ?_
  -- region 1
  refine CW.region ?_
  refine RW.op1 rfl (runs_move rfl) ?_
  refine RW.op1 rfl (runs_move rfl) ?_
  refine RW.call rfl call44 rfl rfl (cutPrefix0_spec hst s p hs hp) ?_
  rintro e w ⟨rfl, hstn⟩
  clear hst
  have hst := hstn
  clear hstn
  refine ⟨_, rfl, ?_⟩
  refine RW.op1 rfl (runs_extract rfl rfl) ?_
  refine RW.op1 rfl (runs_extract rfl rfl) ?_
  refine RW.op1 rfl (runs_assign rfl) ?_
  refine RW.op1 rfl (runs_assign rfl) ?_
  refine RW.done ?_
  refine AQ.next ?_
  refine CW.ret ?_
  refine AQ.ret2 rfl rfl rfl ?_
  exact ⟨rfl, hst⟩
set_option maxRecDepth 100000 in
set_option maxHeartbeats 1000000 in
theorem index1_spec {w0 w : World} {I : Imm} {L : Own} (hst : St w0 w I L) (s : ByteArray) (c : UInt8) (hs : s.size ≤ 9223372036854775807) :
    Calls Tryd.prog 43 #[.string s, .string (oneS c)] w fun e w' => e = .returned (.int .i64 (idxB s.toList c)) ∧ St w0 w' I L := by
  refine enter Tryd.func43 rfl (N := 143) rfl rfl ?_
  simp only [List.zipIdx_cons, List.zipIdx_nil, List.map_cons, List.map_nil, Nat.zero_add, Nat.reduceAdd]
  have hle := Imm.le.refl I
  refine CW.seq ?_
  -- region 0
  refine CW.region ?_
  refine RW.op1 rfl (runs_assign rfl) ?_
  refine RW.done ?_
  refine AQ.next ?_
  refine CW.seq ?_
  -- region 1
  refine CW.region ?_
  refine RW.op1 rfl (runs_move rfl) ?_
  refine RW.op1 rfl (runs_lenS Tryd.underlying9 rfl) ?_
  refine RW.op1 rfl (runs_assign rfl) ?_
  refine RW.done ?_
  refine AQ.next ?_
  refine CW.seq ?_
  refine CW.block ?_
  refine CW.seq ?_
  -- region 2
  refine CW.region ?_
  refine RW.op1 rfl (runs_move rfl) ?_
  refine RW.op1 rfl (runs_eqI rfl rfl) ?_
  refine RW.op1 rfl (runs_move rfl) ?_
  have hk19 := (show decide ((((oneS c).size : Nat) : Int) = 0) = false from rfl)
  refine RW.on_guard rfl rfl rfl rfl hk19 ?_
  refine RW.op1 rfl (runs_move rfl) ?_
  refine RW.on_guard rfl rfl rfl rfl hk19 ?_
  refine RW.op1 rfl (runs_move rfl) ?_
  refine RW.on_guard rfl rfl rfl rfl hk19 ?_
  refine RW.op1 rfl (runs_eqS rfl rfl) ?_
  refine RW.op1 rfl (runs_pick_false rfl hk19 rfl) ?_
  refine RW.op1 rfl (runs_assign rfl) ?_
  refine RW.done ?_
  refine AQ.next ?_
  refine CW.cond rfl (fun hc16 => ?_) (fun hc16 => ?_)
  · have hcb16 := hc16
    try simp only [decide_eq_true_eq, decide_eq_false_iff_not] at hc16
    have hsc : s.toList = [c] := by
      rw [oneS_list] at hc16
      simpa using (beq_iff_eq.1 hc16).symm
    refine CW.seq ?_
    -- region 3
    refine CW.region ?_
    refine RW.op1 rfl (runs_assign rfl) ?_
    refine RW.done ?_
    refine AQ.next ?_
    refine CW.ret ?_
    refine AQ.block_ret ?_
    refine AQ.past_ret ?_
    refine AQ.ret1 rfl rfl ?_
    have h0 : idxB s.toList c = 0 := by
      rw [hsc]
      exact idx_self c
    rw [h0]
    exact ⟨rfl, hst⟩
  · have hcb16 := hc16
    try simp only [decide_eq_true_eq, decide_eq_false_iff_not] at hc16
    skip
    refine CW.seq ?_
    -- region 4
    refine CW.region ?_
    refine RW.op1 rfl (runs_move rfl) ?_
    refine RW.op1 rfl (runs_eqI rfl rfl) ?_
    refine RW.op1 rfl (runs_assign rfl) ?_
    refine RW.done ?_
    refine AQ.next ?_
    refine CW.cond rfl (fun hc => ?_) (fun hc => absurd hc (show ¬ decide ((((oneS c).size : Nat) : Int) = 1) = false by rw [show (oneS c).size = 1 from rfl]; decide))
    refine CW.seq ?_
    -- region 5
    refine CW.region ?_
    refine RW.op1 rfl (runs_move rfl) ?_
    refine RW.op1 rfl (runs_move rfl) ?_
    refine RW.op1 rfl (runs_indexL Tryd.underlying9 rfl rfl (by decide) (by show (0 : Int) < ((1 : Nat) : Int); decide)) ?_
    rw [oneS_list, show ([c] : List UInt8).getD ((0 : Int)).toNat 0 = c from rfl]
    refine RW.call rfl call50 rfl rfl (sidx_spec hst s c) ?_
    rintro e w ⟨rfl, hstn⟩
    clear hst
    have hst := hstn
    clear hstn
    refine ⟨_, rfl, ?_⟩
    refine RW.op1 rfl (runs_assign rfl) ?_
    refine RW.done ?_
    refine AQ.next ?_
    refine CW.ret ?_
    refine AQ.block_ret ?_
    refine AQ.past_ret ?_
    refine AQ.ret1 rfl rfl ?_
    exact ⟨rfl, hst⟩
theorem strOfE (s : ByteArray) : strOf s.toList = s := by rw [ByteArray.toList_eq]; rfl
theorem extractE (s : ByteArray) (i j : Nat) : s.extract i j = strOf ((s.toList.drop i).take (j - i)) := by rw [← extract_list, strOfE]
theorem idxB_rng : ∀ (l : List UInt8) (c : UInt8), -1 ≤ idxB l c ∧ idxB l c < l.length
  | [], c => ⟨by show (-1 : Int) ≤ -1; decide, by show (-1 : Int) < 0; decide⟩
  | b :: r, c => by
    have ih := idxB_rng r c
    have e : idxB (b :: r) c = if b == c then 0 else if idxB r c == -1 then -1 else idxB r c + 1 := rfl
    rw [e, List.length_cons]
    split
    · omega
    · split <;> omega
/-- A text parted at the first such byte. -/
def cutL (l : List UInt8) (c : UInt8) : List UInt8 × List UInt8 × Bool := if 0 ≤ idxB l c then (l.take (idxB l c).toNat, l.drop ((idxB l c).toNat + 1), true) else (l, [], false)
set_option maxRecDepth 100000 in
set_option maxHeartbeats 1000000 in
theorem cut0_spec {w0 w : World} {I : Imm} {L : Own} (hst : St w0 w I L) (s : ByteArray) (c : UInt8) (hs : s.size ≤ 9223372036854775807) :
    Calls Tryd.prog 37 #[.string s, .string (oneS c)] w fun e w' => e = .returned (.tuple #[.string (strOf (cutL s.toList c).1), .string (strOf (cutL s.toList c).2.1), .bool (cutL s.toList c).2.2]) ∧ St w0 w' I L := by
  have hsz := size_toList s
  have hir := idxB_rng s.toList c
  refine enter Tryd.func37 rfl (N := 23) rfl rfl ?_
  simp only [List.zipIdx_cons, List.zipIdx_nil, List.map_cons, List.map_nil, Nat.zero_add, Nat.reduceAdd]
  have hle := Imm.le.refl I
  refine CW.seq ?_
  -- region 0
  refine CW.region ?_
  refine RW.op1 rfl (runs_assign rfl) ?_
  refine RW.op1 rfl (runs_assign rfl) ?_
  refine RW.op1 rfl (runs_assign rfl) ?_
  refine RW.done ?_
  refine AQ.next ?_
  refine CW.seq ?_
  refine CW.seq ?_
  -- region 1
  refine CW.region ?_
  refine RW.op1 rfl (runs_move rfl) ?_
  refine RW.op1 rfl (runs_move rfl) ?_
  refine RW.call rfl call43 rfl rfl (index1_spec hst s c (by omega)) ?_
  rintro e w ⟨rfl, hstn⟩
  clear hst
  have hst := hstn
  clear hstn
  refine ⟨_, rfl, ?_⟩
  refine RW.op1 rfl (runs_assign rfl) ?_
  refine RW.done ?_
  refine AQ.next ?_
  refine CW.seq ?_
  -- region 2
  refine CW.region ?_
  refine RW.op1 rfl (runs_move rfl) ?_
  refine RW.op1 rfl (runs_geq rfl rfl) ?_
  refine RW.done ?_
  refine AQ.next ?_
  refine CW.cond rfl (fun hc12 => ?_) (fun hc12 => ?_)
  · have hcb12 := hc12
    try simp only [decide_eq_true_eq, decide_eq_false_iff_not] at hc12
    have hc0 : cutL s.toList c = (s.toList.take (idxB s.toList c).toNat, s.toList.drop ((idxB s.toList c).toNat + 1), true) := if_pos (by omega)
    refine CW.seq ?_
    -- region 3
    refine CW.draw (fun _ => True) (.q 0 (.q 1 (.q 2 (.q 3 (.q 4 (.q 5 (.q 6 (.q 7 (.q 8 (.q 9 (.q 10 (.q 11 .nil)))))))))))) follows (by kernel_rfl) trivial ?_
    replace hst := hst.draw
    refine DRW.q rfl rfl (fun w' hF => runs_move rfl) ?_
    refine DRW.q rfl rfl (fun w' hF => runs_move rfl) ?_
    refine DRW.q rfl rfl (fun w' hF => runs_sliceS_h Tryd.underlying9 rfl rfl (by omega)) ?_
    refine DRW.q rfl rfl (fun w' hF => runs_move rfl) ?_
    refine DRW.q rfl rfl (fun w' hF => runs_move rfl) ?_
    refine DRW.q rfl rfl (fun w' hF => runs_move rfl) ?_
    refine DRW.q rfl rfl (fun w' hF => runs_lenS Tryd.underlying9 rfl) ?_
    refine DRW.q rfl rfl (fun w' hF => runs_add rfl rfl (by rw [show (((oneS c).size : Nat) : Int) = 1 from rfl]; omega)) ?_
    refine DRW.q rfl rfl (fun w' hF => runs_sliceS_l Tryd.underlying9 rfl rfl (by rw [show (((oneS c).size : Nat) : Int) = 1 from rfl]; omega)) ?_
    refine DRW.q rfl rfl (fun w' hF => runs_assign rfl) ?_
    refine DRW.q rfl rfl (fun w' hF => runs_assign rfl) ?_
    refine DRW.q rfl rfl (fun w' hF => runs_assign rfl) ?_
    refine DRW.done ?_
    refine AQ.next ?_
    refine CW.ret ?_
    refine AQ.past_ret ?_
    refine AQ.retL (rs := [.tmp 4, .tmp 5, .tmp 6]) (vs := [_, _, _]) rfl ⟨rfl, rfl, rfl, trivial⟩ (by simp) ?_
    rw [hc0]
    refine ⟨?_, hst⟩
    rw [extractE, extractE, List.drop_zero, Nat.sub_zero, show (idxB s.toList c + (((oneS c).size : Nat) : Int)).toNat = (idxB s.toList c).toNat + 1 by rw [show (((oneS c).size : Nat) : Int) = 1 from rfl]; omega, List.take_of_length_le (l := s.toList.drop _) (by rw [List.length_drop, hsz]; exact Nat.le_refl _)]
  · have hcb12 := hc12
    try simp only [decide_eq_true_eq, decide_eq_false_iff_not] at hc12
    have hc0 : cutL s.toList c = (s.toList, [], false) := if_neg (by omega)
    refine CW.skip ?_
    refine AQ.next ?_
    refine CW.seq ?_
    -- region 4
    refine CW.region ?_
    refine RW.op1 rfl (runs_move rfl) ?_
    refine RW.op1 rfl (runs_assign rfl) ?_
    refine RW.op1 rfl (runs_assign rfl) ?_
    refine RW.op1 rfl (runs_assign rfl) ?_
    refine RW.done ?_
    refine AQ.next ?_
    refine CW.ret ?_
    refine AQ.retL (rs := [.tmp 4, .tmp 5, .tmp 6]) (vs := [_, _, _]) rfl ⟨rfl, rfl, rfl, trivial⟩ (by simp) ?_
    rw [hc0]
    exact ⟨by rw [strOfE]; rfl, hst⟩
set_option maxRecDepth 100000 in
set_option maxHeartbeats 1000000 in
theorem cut1_spec {w0 w : World} {I : Imm} {L : Own} (hst : St w0 w I L) (s : ByteArray) (c : UInt8) (hs : s.size ≤ 9223372036854775807) :
    Calls Tryd.prog 21 #[.string s, .string (oneS c)] w fun e w' => e = .returned (.tuple #[.string (strOf (cutL s.toList c).1), .string (strOf (cutL s.toList c).2.1), .bool (cutL s.toList c).2.2]) ∧ St w0 w' I L := by
  refine enter Tryd.func21 rfl (N := 13) rfl rfl ?_
  simp only [List.zipIdx_cons, List.zipIdx_nil, List.map_cons, List.map_nil, Nat.zero_add, Nat.reduceAdd]
  have hle := Imm.le.refl I
  refine CW.seq ?_
  -- region 0
  refine CW.region ?_
  refine RW.op1 rfl (runs_assign rfl) ?_
  refine RW.op1 rfl (runs_assign rfl) ?_
  refine RW.op1 rfl (runs_assign rfl) ?_
  refine RW.done ?_
  refine AQ.next ?_
  refine CW.seq ?_
  -- region 1
  refine CW.region ?_
  refine RW.op1 rfl (runs_move rfl) ?_
  refine RW.op1 rfl (runs_move rfl) ?_
  refine RW.call rfl call37 rfl rfl (cut0_spec hst s c hs) ?_
  rintro e w ⟨rfl, hstn⟩
  clear hst
  have hst := hstn
  clear hstn
  refine ⟨_, rfl, ?_⟩
  refine RW.op1 rfl (runs_extract rfl rfl) ?_
  refine RW.op1 rfl (runs_extract rfl rfl) ?_
  refine RW.op1 rfl (runs_extract rfl rfl) ?_
  refine RW.op1 rfl (runs_assign rfl) ?_
  refine RW.op1 rfl (runs_assign rfl) ?_
  refine RW.op1 rfl (runs_assign rfl) ?_
  refine RW.done ?_
  refine AQ.next ?_
  refine CW.ret ?_
  refine AQ.retL (rs := [.tmp 4, .tmp 5, .tmp 6]) (vs := [_, _, _]) rfl ⟨rfl, rfl, rfl, trivial⟩ (by simp) ?_
  exact ⟨rfl, hst⟩
end Go.Proofs.YtfjghkmapccjhaaDoorX
