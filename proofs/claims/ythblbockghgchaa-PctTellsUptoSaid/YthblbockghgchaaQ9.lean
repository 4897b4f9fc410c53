/- A text parted between runes: the walk. -/
import Derived.Test.YthblbockghgchaaT
import Derived.Test.YthblbockghgchaaQ7
namespace Go.Proofs.YthblbockghgchaaX
set_option linter.unusedVariables false
set_option linter.unusedSimpArgs false
open Go Go.RowKit Go.Proofs

theorem txt_len (l : List UInt8) : (txt (runesL l)).length ≤ 4 * l.length := by
  have h := flat_len (f := fun (r : Nat) => encL (r : Int)) (n := 4) (runesL l) (fun r _ => (encL_len (r : Int)).2)
  have h2 := runesF_len l.length l
  unfold txt
  unfold runesL at h ⊢
  omega
set_option maxRecDepth 100000 in
set_option maxHeartbeats 1000000 in
theorem pparts_spec {w0 w : World} {I : Imm} {L : Own} (hst : St w0 w I L) (s t : List UInt8) (hsz : s.length + t.length ≤ 1048576) :
    Calls Try.prog 3 #[.string (strOf s), .string (strOf t)] w fun e w' => e = .returned (.bool true) ∧ ∃ I', I.le I' ∧ St w0 w' I' L := by
  have hta := txt_len s
  have htb := txt_len t
  refine enter Try.func3 rfl (N := 61) rfl rfl ?_
  simp only [List.zipIdx_cons, List.zipIdx_nil, List.map_cons, List.map_nil, Nat.zero_add, Nat.reduceAdd]
  have hle := Imm.le.refl I
  refine CW.seq ?_
  -- region 0
  refine CW.region ?_
  refine RW.op1 rfl (runs_assign rfl) ?_
  refine RW.done ?_
  refine AQ.next ?_
  refine CW.seq ?_
  -- region 1
  refine CW.region ?_
  refine RW.op1 rfl (runs_assign rfl) ?_
  refine RW.done ?_
  refine AQ.next ?_
  refine CW.seq ?_
  refine CW.seq ?_
  -- region 2
  refine CW.region ?_
  refine RW.op1 rfl (runs_move rfl) ?_
  refine RW.opE rfl (runs_rangeS Try.underlying9 rfl hst) ?_
  rintro _ w ⟨b12, rfl, hstn⟩
  clear hst
  have hst := hstn
  clear hstn
  refine RW.done ?_
  refine AQ.next ?_
  refine CW.block ?_
  -- loop 1
  refine CW.loop (Nat × List UInt8) (fun x w => St w0 w I ((b12, .stringIter (strOf s) x.1) :: L) ∧ txt (runesL s) = x.2 ++ txt (runesAt (strOf s) x.1)) (fun x => [(0, .string (strOf s)), (1, .string (strOf t)), (5, .string (strOf x.2)), (12, .pointer (some ⟨b12, 0, none⟩))]) (fun x => (strOf s).size - x.1) ⟨(0, []), ⟨hst, by rw [runesAt_zero, strOf_toList, List.nil_append]⟩, ⟨rfl, rfl, rfl, rfl, trivial⟩⟩ ?_
  rintro ⟨pos, out⟩ w ⟨hstn, hout⟩
  dsimp only at hstn hout ⊢
  clear hst
  have hst := hstn
  clear hstn
  refine CW.seq ?_
  -- region 3
  refine CW.region ?_
  refine RW.opE rfl (runs_nextS rfl hst (k := 0) rfl) ?_
  rintro _ w ⟨rfl, hstn⟩
  clear hst
  have hst := hstn
  clear hstn
  simp only [List.set_cons_zero] at hst
  refine RW.op1 rfl (runs_extract rfl (nextV_0 (strOf s) pos)) ?_
  refine RW.done ?_
  refine AQ.next ?_
  refine CW.seq ?_
  refine CW.cond rfl (fun hc14 => ?_) (fun hc14 => ?_)
  · have hcb14 := hc14
    try simp only [decide_eq_true_eq, decide_eq_false_iff_not] at hc14
    have hnx := runesAt_next hc14
    have hmore := nextP_more hc14
    refine CW.skip ?_
    refine AQ.next ?_
    refine CW.block ?_
    refine CW.seq ?_
    -- region 4
    refine CW.region ?_
    refine RW.op1 rfl (runs_extract rfl (nextV_2 hc14)) ?_
    generalize (Utf8.decode (strOf s) pos).1 = r at hnx ⊢
    rw [hnx, show txt (r :: runesAt (strOf s) (nextP (strOf s) pos)) = encL (r : Int) ++ txt (runesAt (strOf s) (nextP (strOf s) pos)) from List.flatMap_cons, ← List.append_assoc] at hout
    have hol := congrArg List.length hout
    rw [List.length_append, List.length_append] at hol
    have hz := strOf_size out
    have hz2 := strOf_size (encL (r : Int))
    have hel := (encL_len (r : Int)).2
    refine RW.op1 rfl (runs_assign rfl) ?_
    refine RW.done ?_
    refine AQ.next ?_
    -- region 5
    refine CW.region ?_
    refine RW.op1 rfl (runs_move rfl) ?_
    refine RW.op1 rfl (runs_move rfl) ?_
    refine RW.op1 rfl (runs_runeStr (by rw [Try.underlying21]; rfl) Try.underlying9 rfl) ?_
    rw [enc_str]
    refine RW.op1 rfl (runs_addS rfl rfl (by omega)) ?_
    rw [strOf_app]
    refine RW.op1 rfl (runs_assign rfl) ?_
    refine RW.done ?_
    refine AQ.block_normal ?_
    exact AQ.again (x := (pos, out)) (nextP (strOf s) pos, _) ⟨hst, hout⟩ ⟨rfl, rfl, rfl, rfl, trivial⟩ (by dsimp only; omega)
  · have hcb14 := hc14
    try simp only [decide_eq_true_eq, decide_eq_false_iff_not] at hc14
    have hnx := runesAt_end hc14
    refine CW.exit ?_
    refine AQ.past_exit ?_
    refine AQ.past_exit ?_
    refine AQ.block_hit ?_
    refine AQ.next ?_
    refine CW.seq ?_
    -- region 6
    refine CW.region ?_
    rw [hnx, show txt [] = [] from rfl, List.append_nil] at hout
    rw [← hout]
    have hstn := hst.drop1
    clear hst
    have hst := hstn
    clear hstn
    refine RW.op1 rfl (runs_assign rfl) ?_
    refine RW.done ?_
    refine AQ.next ?_
    refine CW.seq ?_
    refine CW.seq ?_
    -- region 7
    refine CW.region ?_
    refine RW.op1 rfl (runs_move rfl) ?_
    refine RW.opE rfl (runs_rangeS Try.underlying9 rfl hst) ?_
    rintro _ w ⟨b21, rfl, hstn⟩
    clear hst
    have hst := hstn
    clear hstn
    refine RW.done ?_
    refine AQ.next ?_
    refine CW.block ?_
    -- loop 2
    clear hout hnx hc14 hcb14
    refine CW.loop (Nat × List UInt8) (fun x w => St w0 w I ((b21, .stringIter (strOf t) x.1) :: L) ∧ txt (runesL t) = x.2 ++ txt (runesAt (strOf t) x.1)) (fun x => [(0, .string (strOf s)), (1, .string (strOf t)), (5, .string (strOf (txt (runesL s)))), (8, .string (strOf x.2)), (21, .pointer (some ⟨b21, 0, none⟩))]) (fun x => (strOf t).size - x.1) ⟨(0, []), ⟨hst, by rw [runesAt_zero, strOf_toList, List.nil_append]⟩, ⟨rfl, rfl, rfl, rfl, rfl, trivial⟩⟩ ?_
    rintro ⟨pos, out⟩ w ⟨hstn, hout⟩
    dsimp only at hstn hout ⊢
    clear hst
    have hst := hstn
    clear hstn
    refine CW.seq ?_
    -- region 8
    refine CW.region ?_
    refine RW.opE rfl (runs_nextS rfl hst (k := 0) rfl) ?_
    rintro _ w ⟨rfl, hstn⟩
    clear hst
    have hst := hstn
    clear hstn
    simp only [List.set_cons_zero] at hst
    refine RW.op1 rfl (runs_extract rfl (nextV_0 (strOf t) pos)) ?_
    refine RW.done ?_
    refine AQ.next ?_
    refine CW.seq ?_
    refine CW.cond rfl (fun hc23 => ?_) (fun hc23 => ?_)
    · have hcb23 := hc23
      try simp only [decide_eq_true_eq, decide_eq_false_iff_not] at hc23
      have hnx := runesAt_next hc23
      have hmore := nextP_more hc23
      refine CW.skip ?_
      refine AQ.next ?_
      refine CW.block ?_
      refine CW.seq ?_
      -- region 9
      refine CW.region ?_
      refine RW.op1 rfl (runs_extract rfl (nextV_2 hc23)) ?_
      generalize (Utf8.decode (strOf t) pos).1 = r at hnx ⊢
      rw [hnx, show txt (r :: runesAt (strOf t) (nextP (strOf t) pos)) = encL (r : Int) ++ txt (runesAt (strOf t) (nextP (strOf t) pos)) from List.flatMap_cons, ← List.append_assoc] at hout
      have hol := congrArg List.length hout
      rw [List.length_append, List.length_append] at hol
      have hz := strOf_size out
      have hz2 := strOf_size (encL (r : Int))
      have hel := (encL_len (r : Int)).2
      refine RW.op1 rfl (runs_assign rfl) ?_
      refine RW.done ?_
      refine AQ.next ?_
      -- region 10
      refine CW.region ?_
      refine RW.op1 rfl (runs_move rfl) ?_
      refine RW.op1 rfl (runs_move rfl) ?_
      refine RW.op1 rfl (runs_runeStr (by rw [Try.underlying21]; rfl) Try.underlying9 rfl) ?_
      rw [enc_str]
      refine RW.op1 rfl (runs_addS rfl rfl (by omega)) ?_
      rw [strOf_app]
      refine RW.op1 rfl (runs_assign rfl) ?_
      refine RW.done ?_
      refine AQ.block_normal ?_
      exact AQ.again (x := (pos, out)) (nextP (strOf t) pos, _) ⟨hst, hout⟩ ⟨rfl, rfl, rfl, rfl, rfl, trivial⟩ (by dsimp only; omega)
    · have hcb23 := hc23
      try simp only [decide_eq_true_eq, decide_eq_false_iff_not] at hc23
      have hnx := runesAt_end hc23
      refine CW.exit ?_
      refine AQ.past_exit ?_
      refine AQ.past_exit ?_
      refine AQ.block_hit ?_
      refine AQ.next ?_
      refine CW.seq ?_
      -- region 11
      refine CW.region ?_
      rw [hnx, show txt [] = [] from rfl, List.append_nil] at hout
      rw [← hout]
      have hstn := hst.drop1
      clear hst
      have hst := hstn
      clear hstn
      have hpa := encB_parts s t
      have hea := encB_txt s
      have hla := encB_len (txt (runesL s))
      have hlb := encB_len (txt (runesL t))
      generalize hA : txt (runesL s) = a at *
      generalize hB : txt (runesL t) = b at *
      have hza := strOf_size a
      have hzb := strOf_size b
      have hzs := strOf_size s
      have hzt := strOf_size t
      rw [hea] at hla hpa
      have hzea := strOf_size (encB s)
      have hzeb := strOf_size (encB b)
      refine RW.op1 rfl (runs_move rfl) ?_
      refine RW.op1 rfl (runs_move rfl) ?_
      refine RW.op1 rfl (runs_addS rfl rfl (by omega)) ?_
      rw [strOf_app]
      have hzab := strOf_size (a ++ b)
      rw [List.length_append] at hzab
      refine RW.call rfl call8 rfl rfl (encode_spec hst (strOf (a ++ b)) (by omega)) ?_
      rintro e w ⟨I5, hI5, rfl, hstn⟩
      clear hst
      have hst := hstn
      clear hstn
      rw [strOf_toList, hpa]
      replace hle := hle.trans hI5
      refine ⟨_, rfl, ?_⟩
      refine RW.op1 rfl (runs_move rfl) ?_
      refine RW.call rfl call8 rfl rfl (encode_spec hst (strOf a) (by omega)) ?_
      rintro e w ⟨I6, hI6, rfl, hstn⟩
      clear hst
      have hst := hstn
      clear hstn
      rw [strOf_toList, hea]
      replace hle := hle.trans hI6
      refine ⟨_, rfl, ?_⟩
      refine RW.op1 rfl (runs_move rfl) ?_
      refine RW.call rfl call8 rfl rfl (encode_spec hst (strOf b) (by omega)) ?_
      rintro e w ⟨I7, hI7, rfl, hstn⟩
      clear hst
      have hst := hstn
      clear hstn
      rw [strOf_toList]
      replace hle := hle.trans hI7
      refine ⟨_, rfl, ?_⟩
      refine RW.op1 rfl (runs_addS rfl rfl (by omega)) ?_
      rw [strOf_app]
      refine RW.op1 rfl (runs_eqS rfl rfl) ?_
      refine RW.op1 rfl (runs_move rfl) ?_
      have hk39 := (show ((strOf (encB s ++ encB b)).toList == (strOf (encB s ++ encB b)).toList) = true from beq_self_list _)
      refine RW.on_guard rfl rfl rfl rfl hk39 ?_
      refine RW.op1 rfl (runs_move rfl) ?_
      refine RW.on_guard rfl rfl rfl rfl hk39 ?_
      refine RW.call rfl call8 rfl rfl (encode_spec hst (strOf a) (by omega)) ?_
      rintro e w ⟨I8, hI8, rfl, hstn⟩
      clear hst
      have hst := hstn
      clear hstn
      rw [strOf_toList, hea]
      replace hle := hle.trans hI8
      refine ⟨_, rfl, ?_⟩
      refine RW.on_guard rfl rfl rfl rfl hk39 ?_
      refine RW.op1 rfl (runs_move rfl) ?_
      refine RW.on_guard rfl rfl rfl rfl hk39 ?_
      refine RW.call rfl call8 rfl rfl (encode_spec hst (strOf s) (by omega)) ?_
      rintro e w ⟨I9, hI9, rfl, hstn⟩
      clear hst
      have hst := hstn
      clear hstn
      rw [strOf_toList]
      replace hle := hle.trans hI9
      refine ⟨_, rfl, ?_⟩
      refine RW.on_guard rfl rfl rfl rfl hk39 ?_
      refine RW.op1 rfl (runs_eqS rfl rfl) ?_
      refine RW.op1 rfl (runs_pick_true rfl hk39 rfl) ?_
      refine RW.op1 rfl (runs_move rfl) ?_
      have hk46 := (show ((strOf (encB s)).toList == (strOf (encB s)).toList) = true from beq_self_list _)
      refine RW.on_guard rfl rfl rfl rfl hk46 ?_
      refine RW.op1 rfl (runs_move rfl) ?_
      refine RW.on_guard rfl rfl rfl rfl hk46 ?_
      refine RW.op1 rfl (runs_move rfl) ?_
      refine RW.on_guard rfl rfl rfl rfl hk46 ?_
      refine RW.op1 rfl (runs_addS rfl rfl (by omega)) ?_
      rw [strOf_app]
      have hzst := strOf_size (s ++ t)
      rw [List.length_append] at hzst
      have hzls := strOf_size (lower s)
      have hzlt := strOf_size (lower t)
      have hll : (lower s).length = s.length := by unfold lower; rw [List.length_map]
      have hlt : (lower t).length = t.length := by unfold lower; rw [List.length_map]
      refine RW.on_guard rfl rfl rfl rfl hk46 ?_
      refine RW.call rfl call9 rfl rfl (lower_spec hst (strOf (s ++ t)) (by omega)) ?_
      rintro e w ⟨I10, hI10, rfl, hstn⟩
      clear hst
      have hst := hstn
      clear hstn
      rw [strOf_toList, lower_app]
      replace hle := hle.trans hI10
      refine ⟨_, rfl, ?_⟩
      refine RW.on_guard rfl rfl rfl rfl hk46 ?_
      refine RW.op1 rfl (runs_move rfl) ?_
      refine RW.on_guard rfl rfl rfl rfl hk46 ?_
      refine RW.call rfl call9 rfl rfl (lower_spec hst (strOf s) (by omega)) ?_
      rintro e w ⟨I11, hI11, rfl, hstn⟩
      clear hst
      have hst := hstn
      clear hstn
      rw [strOf_toList]
      replace hle := hle.trans hI11
      refine ⟨_, rfl, ?_⟩
      refine RW.on_guard rfl rfl rfl rfl hk46 ?_
      refine RW.op1 rfl (runs_move rfl) ?_
      refine RW.on_guard rfl rfl rfl rfl hk46 ?_
      refine RW.call rfl call9 rfl rfl (lower_spec hst (strOf t) (by omega)) ?_
      rintro e w ⟨I12, hI12, rfl, hstn⟩
      clear hst
      have hst := hstn
      clear hstn
      rw [strOf_toList]
      replace hle := hle.trans hI12
      refine ⟨_, rfl, ?_⟩
      refine RW.on_guard rfl rfl rfl rfl hk46 ?_
      refine RW.op1 rfl (runs_addS rfl rfl (by omega)) ?_
      rw [strOf_app]
      refine RW.on_guard rfl rfl rfl rfl hk46 ?_
      refine RW.op1 rfl (runs_eqS rfl rfl) ?_
      refine RW.op1 rfl (runs_pick_true rfl hk46 rfl) ?_
      refine RW.op1 rfl (runs_move rfl) ?_
      have hk58 := (show ((strOf (lower s ++ lower t)).toList == (strOf (lower s ++ lower t)).toList) = true from beq_self_list _)
      refine RW.on_guard rfl rfl rfl rfl hk58 ?_
      refine RW.call rfl call10 rfl rfl (wakes06_spec hst) ?_
      rintro e w ⟨I13, hI13, rfl, hstn⟩
      clear hst
      have hst := hstn
      clear hstn
      replace hle := hle.trans hI13
      refine ⟨_, rfl, ?_⟩
      refine RW.op1 rfl (runs_pick_true rfl hk58 rfl) ?_
      refine RW.op1 rfl (runs_assign rfl) ?_
      refine RW.done ?_
      refine AQ.next ?_
      refine CW.ret ?_
      refine AQ.ret1 rfl rfl ?_
      exact ⟨rfl, _, hle, hst⟩
end Go.Proofs.YthblbockghgchaaX
