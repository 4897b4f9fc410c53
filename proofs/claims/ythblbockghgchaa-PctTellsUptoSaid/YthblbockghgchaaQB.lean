/- Any text encoded, decoded, in small letters, trimmed: the walk. -/
import Derived.Test.YthblbockghgchaaT
import Derived.Test.YthblbockghgchaaQ9
import Derived.Test.YthblbockghgchaaXG
namespace Go.Proofs.YthblbockghgchaaX
set_option linter.unusedVariables false
set_option linter.unusedSimpArgs false
open Go Go.RowKit Go.Proofs

set_option maxRecDepth 100000 in
set_option maxHeartbeats 1000000 in
theorem ptells_spec {w0 w : World} {I : Imm} {L : Own} (hst : St w0 w I L) (s t : List UInt8) (hsz : s.length + t.length ≤ 1048576) :
    Calls Try.prog 6 #[.string (strOf s), .string (strOf t)] w fun e w' => e = .returned (.bool true) ∧ ∃ I', I.le I' ∧ St w0 w' I' L := by
  have hzs := strOf_size s
  have hzt := strOf_size t
  refine enter Try.func6 rfl (N := 67) rfl rfl ?_
  simp only [List.zipIdx_cons, List.zipIdx_nil, List.map_cons, List.map_nil, Nat.zero_add, Nat.reduceAdd]
  have hle := Imm.le.refl I
  refine CW.seq ?_
  -- region 0
  refine CW.region ?_
  refine RW.op1 rfl (runs_assign rfl) ?_
  refine RW.done ?_
  refine AQ.next ?_
  refine CW.seq ?_
  refine CW.seq ?_
  -- region 1
  refine CW.region ?_
  refine RW.op1 rfl (runs_move rfl) ?_
  refine RW.op1 rfl (runs_move rfl) ?_
  refine RW.op1 rfl (runs_move rfl) ?_
  refine RW.op1 rfl (runs_move rfl) ?_
  refine RW.op1 rfl (runs_addS rfl rfl (by omega)) ?_
  rw [strOf_app]
  refine RW.op1 rfl (runs_move rfl) ?_
  refine RW.op1 rfl (runs_addS (a := strOf [37, 52]) rfl rfl (by rw [strOf_size [37, 52]]; show 2 + _ ≤ _; omega)) ?_
  rw [strOf_app]
  refine RW.op1 rfl (runs_move rfl) ?_
  refine RW.call rfl call14 rfl rfl (rpct_spec hst (strOf s) (by omega)) ?_
  rintro e w ⟨I1, hI1, rfl, hstn⟩
  clear hst
  have hst := hstn
  clear hstn
  rw [strOf_toList]
  replace hle := hle.trans hI1
  refine ⟨_, rfl, ?_⟩
  refine RW.opE rfl (runs_lit1R Try.underlying32 ti9 (by decide) rfl rfl rfl (by simp [Value.oneCell']) hst) ?_
  rintro u2 w ⟨I2, hI2, hstn, h2⟩
  clear hst
  have hst := hstn
  clear hstn
  replace hle := hle.trans hI2
  obtain ⟨vX, hvX⟩ : ∃ v, v = u2 := ⟨_, rfl⟩
  obtain ⟨xs, hxs, hxl⟩ : ∃ xs : List ByteArray, xs = [strOf s, strOf t, strOf (s ++ t), strOf ([37, 52] ++ s), strOf (encB s)] ∧ xs.length = 5 := ⟨_, rfl, rfl⟩
  have hV : RdS _ u2 [strOf s, strOf t, strOf (s ++ t), strOf ([37, 52] ++ s), strOf (encB s)] := h2
  rw [← hxs] at hV
  have hxz : ∀ x ∈ xs, x.size ≤ 20000000 := by
    have hel := encB_len s
    intro x hx
    rw [hxs] at hx
    simp only [List.mem_cons, List.not_mem_nil, or_false] at hx
    rcases hx with rfl | rfl | rfl | rfl | rfl <;> rw [strOf_size] <;> (try simp only [List.length_append, List.length_cons, List.length_nil]) <;> omega
  rw [← hvX] at hV ⊢
  refine RW.op1 rfl (RdL.len Try.underlying32 rfl hV) ?_
  rw [hxl]
  refine RW.op1 rfl (runs_move rfl) ?_
  refine RW.done ?_
  refine AQ.next ?_
  refine CW.block ?_
  -- loop 1
  refine CW.loop (Nat × Imm) (fun x w => I.le x.2 ∧ St w0 w x.2 L ∧ RdS x.2 vX xs ∧ x.1 ≤ 5) (fun x => [(20, vX), (21, .int .i64 (5 : Nat)), (22, .int .i64 (x.1 : Int))]) (fun x => 5 - x.1) ⟨(0, _), ⟨hle, hst, hV, Nat.zero_le _⟩, ⟨rfl, rfl, rfl, trivial⟩⟩ ?_
  clear hV hle
  rintro ⟨j, I8⟩ w ⟨hle, hstn, hV, hj⟩
  dsimp only at hle hstn hV hj ⊢
  clear hst
  have hst := hstn
  clear hstn
  refine CW.seq ?_
  -- region 2
  refine CW.region ?_
  refine RW.op1 rfl (runs_lss rfl rfl) ?_
  refine RW.done ?_
  refine AQ.next ?_
  refine CW.seq ?_
  refine CW.cond rfl (fun hc23 => ?_) (fun hc23 => ?_)
  · have hcb23 := hc23
    try simp only [decide_eq_true_eq, decide_eq_false_iff_not] at hc23
    have hj1 : j < xs.length := by omega
    refine CW.skip ?_
    refine AQ.next ?_
    refine CW.seq ?_
    refine CW.block ?_
    refine CW.seq ?_
    -- region 3
    refine CW.region ?_
    refine RW.op1 rfl (RdL.indexAddr Try.underlying32 ti9 (by decide) rfl rfl hV (by omega)) ?_
    refine RW.op1 rfl (runs_load1 sc9 rfl (hst.cell_imm (RdS.at hV (by omega) (by omega)))) ?_
    have hxm : sat xs (j : Int) ∈ xs := by rw [sat_get hj1]; exact List.getElem_mem _
    have hxz1 := hxz _ hxm
    generalize sat xs (j : Int) = x at hxz1 ⊢
    obtain ⟨o, ho⟩ : ∃ o, decB x.toList = o := ⟨_, rfl⟩
    refine RW.op1 rfl (runs_assign rfl) ?_
    refine RW.done ?_
    refine AQ.next ?_
    refine CW.seq ?_
    -- region 4
    refine CW.region ?_
    refine RW.op1 rfl (runs_move rfl) ?_
    refine RW.call rfl call11 rfl rfl (decode_spec hst x (by omega)) ?_
    rintro e w ⟨I3, hI3, rfl, hstn⟩
    clear hst
    have hst := hstn
    clear hstn
    rw [ho]
    replace hV := hV.mono hI3
    replace hle := hle.trans hI3
    refine ⟨_, rfl, ?_⟩
    refine RW.op1 rfl (runs_move rfl) ?_
    refine RW.op1 rfl (runs_extract rfl rfl) ?_
    refine RW.op1 rfl (runs_extract rfl rfl) ?_
    refine RW.op1 rfl (runs_assign rfl) ?_
    refine RW.op1 rfl (runs_assign rfl) ?_
    refine RW.done ?_
    refine AQ.next ?_
    refine CW.seq ?_
    -- region 5
    refine CW.region ?_
    refine RW.op1 rfl (runs_move rfl) ?_
    refine RW.call rfl call15 rfl rfl (unpct_spec hst x (by omega)) ?_
    rintro e w ⟨I4, hI4, rfl, hstn⟩
    clear hst
    have hst := hstn
    clear hstn
    rw [ho]
    replace hV := hV.mono hI4
    replace hle := hle.trans hI4
    refine ⟨_, rfl, ?_⟩
    refine RW.op1 rfl (runs_move rfl) ?_
    refine RW.op1 rfl (runs_extract rfl rfl) ?_
    refine RW.op1 rfl (runs_extract rfl rfl) ?_
    refine RW.op1 rfl (runs_assign rfl) ?_
    refine RW.op1 rfl (runs_assign rfl) ?_
    refine RW.done ?_
    refine AQ.next ?_
    refine CW.seq ?_
    -- region 6
    refine CW.region ?_
    refine RW.op1 rfl (runs_move rfl) ?_
    refine RW.call rfl call8 rfl rfl (encode_spec hst x (by omega)) ?_
    rintro e w ⟨I5, hI5, rfl, hstn⟩
    clear hst
    have hst := hstn
    clear hstn
    replace hV := hV.mono hI5
    replace hle := hle.trans hI5
    refine ⟨_, rfl, ?_⟩
    refine RW.op1 rfl (runs_move rfl) ?_
    refine RW.call rfl call14 rfl rfl (rpct_spec hst x (by omega)) ?_
    rintro e w ⟨I6, hI6, rfl, hstn⟩
    clear hst
    have hst := hstn
    clear hstn
    replace hV := hV.mono hI6
    replace hle := hle.trans hI6
    refine ⟨_, rfl, ?_⟩
    refine RW.op1 rfl (runs_neS rfl rfl) ?_
    refine RW.op1 rfl (runs_move rfl) ?_
    have hk41 := (show (!((strOf (encB x.toList)).toList == (strOf (encB x.toList)).toList)) = false by rw [beq_self_list]; rfl)
    refine RW.on_guard rfl rfl rfl rfl hk41 ?_
    refine RW.op1 rfl (runs_move rfl) ?_
    refine RW.on_guard rfl rfl rfl rfl hk41 ?_
    refine RW.op1 rfl (runs_move rfl) ?_
    refine RW.on_guard rfl rfl rfl rfl hk41 ?_
    refine RW.op1 rfl (runs_neS rfl rfl) ?_
    refine RW.op1 rfl (runs_pick_false rfl hk41 rfl) ?_
    refine RW.op1 rfl (runs_move rfl) ?_
    have hk46 := (show (!((strOf (o.getD [])).toList == (strOf (o.getD [])).toList)) = false by rw [beq_self_list]; rfl)
    refine RW.on_guard rfl rfl rfl rfl hk46 ?_
    refine RW.op1 rfl (runs_move rfl) ?_
    refine RW.on_guard rfl rfl rfl rfl hk46 ?_
    refine RW.op1 rfl (runs_move rfl) ?_
    refine RW.on_guard rfl rfl rfl rfl hk46 ?_
    refine RW.op1 rfl (runs_neB Try.underlying4 rfl rfl) ?_
    refine RW.op1 rfl (runs_pick_false rfl hk46 rfl) ?_
    refine RW.op1 rfl (runs_move rfl) ?_
    have hk51 := (show (!(o.isSome == o.isSome)) = false by simp)
    refine RW.on_guard rfl rfl rfl rfl hk51 ?_
    refine RW.op1 rfl (runs_move rfl) ?_
    refine RW.on_guard rfl rfl rfl rfl hk51 ?_
    refine RW.call rfl call9 rfl rfl (lower_spec hst x (by omega)) ?_
    rintro e w ⟨I7, hI7, rfl, hstn⟩
    clear hst
    have hst := hstn
    clear hstn
    replace hV := hV.mono hI7
    replace hle := hle.trans hI7
    refine ⟨_, rfl, ?_⟩
    refine RW.on_guard rfl rfl rfl rfl hk51 ?_
    refine RW.op1 rfl (runs_move rfl) ?_
    refine RW.on_guard rfl rfl rfl rfl hk51 ?_
    refine RW.call rfl call16 rfl rfl (refLower_spec hst x (by omega)) ?_
    rintro e w ⟨I8, hI8, rfl, hstn⟩
    clear hst
    have hst := hstn
    clear hstn
    replace hV := hV.mono hI8
    replace hle := hle.trans hI8
    refine ⟨_, rfl, ?_⟩
    refine RW.on_guard rfl rfl rfl rfl hk51 ?_
    refine RW.op1 rfl (runs_neS rfl rfl) ?_
    refine RW.op1 rfl (runs_pick_false rfl hk51 rfl) ?_
    refine RW.op1 rfl (runs_move rfl) ?_
    have hk58 := (show (!((strOf (lower x.toList)).toList == (strOf (lower x.toList)).toList)) = false by rw [beq_self_list]; rfl)
    refine RW.on_guard rfl rfl rfl rfl hk58 ?_
    refine RW.op1 rfl (runs_move rfl) ?_
    refine RW.on_guard rfl rfl rfl rfl hk58 ?_
    refine RW.call rfl call13 rfl rfl (trim_spec hst x (by omega)) ?_
    rintro e w ⟨rfl, hstn⟩
    clear hst
    have hst := hstn
    clear hstn
    refine ⟨_, rfl, ?_⟩
    refine RW.on_guard rfl rfl rfl rfl hk58 ?_
    refine RW.op1 rfl (runs_move rfl) ?_
    refine RW.on_guard rfl rfl rfl rfl hk58 ?_
    refine RW.call rfl call17 rfl rfl (rtrim_spec hst x (by omega)) ?_
    rintro e w ⟨rfl, hstn⟩
    clear hst
    have hst := hstn
    clear hstn
    refine ⟨_, rfl, ?_⟩
    refine RW.on_guard rfl rfl rfl rfl hk58 ?_
    refine RW.op1 rfl (runs_neS rfl rfl) ?_
    refine RW.op1 rfl (runs_pick_false rfl hk58 rfl) ?_
    refine RW.done ?_
    refine AQ.next ?_
    refine CW.cond rfl (fun hc => absurd hc (by rw [beq_self_list]; decide)) (fun hc => ?_)
    refine CW.skip ?_
    refine AQ.block_normal ?_
    refine AQ.next ?_
    -- region 8
    refine CW.region ?_
    refine RW.op1 rfl (runs_add rfl rfl (by omega)) ?_
    refine RW.op1 rfl (runs_move rfl) ?_
    refine RW.done ?_
    exact AQ.again (x := (j, I8)) (j + 1, _) ⟨hle, hst, hV, by omega⟩ ⟨rfl, rfl, rfl, trivial⟩ (by dsimp only; omega)
  · have hcb23 := hc23
    try simp only [decide_eq_true_eq, decide_eq_false_iff_not] at hc23
    skip
    refine CW.exit ?_
    refine AQ.past_exit ?_
    refine AQ.past_exit ?_
    refine AQ.block_hit ?_
    refine AQ.next ?_
    refine CW.seq ?_
    -- region 9
    refine CW.region ?_
    refine RW.call rfl call10 rfl rfl (wakes06_spec hst) ?_
    rintro e w ⟨I11, hI11, rfl, hstn⟩
    clear hst
    have hst := hstn
    clear hstn
    replace hV := hV.mono hI11
    replace hle := hle.trans hI11
    refine ⟨_, rfl, ?_⟩
    refine RW.op1 rfl (runs_assign rfl) ?_
    refine RW.done ?_
    refine AQ.next ?_
    refine CW.ret ?_
    refine AQ.ret1 rfl rfl ?_
    exact ⟨rfl, _, hle, hst⟩
end Go.Proofs.YthblbockghgchaaX
