/- The document's small letters, headers, numbers, waits: what these come to. -/
import Derived.Test.YtdelipmhginegaaT
import Derived.Test.YtdelipmhginegaaH3
namespace Go.Proofs.YtdelipmhginegaaX
set_option linter.unusedVariables false
set_option linter.unusedSimpArgs false
open Go Go.RowKit Go.Proofs

set_option maxRecDepth 100000 in
set_option maxHeartbeats 1000000 in
theorem refLower_spec {w0 w : World} {I : Imm} {L : Own} (hst : St w0 w I L) (s : ByteArray) (hs : s.size ≤ 9223372036854775807) :
    Calls Try.prog 29 #[.string s] w fun e w' => ∃ I' , Imm.le I I' ∧ e = .returned (.string (strOf (lower s.toList))) ∧ St w0 w' I' L := by
  have hsl := size_toList s
  refine enter Try.func29 rfl (N := 29) rfl rfl ?_
  simp only [List.zipIdx_cons, List.zipIdx_nil, List.map_cons, List.map_nil, Nat.zero_add, Nat.reduceAdd]
  have hle := Imm.le.refl I
  refine CW.seq ?_
  -- region 0
  refine CW.region ?_
  refine RW.op1 rfl (runs_assign rfl) ?_
  refine RW.done ?_
  refine AQ.next ?_
  refine CW.seq ?_
  -- region 1
  refine CW.region ?_
  refine RW.op1 rfl (runs_move rfl) ?_
  refine RW.opE rfl (runs_bytesOf Try.underlying9 Try.underlying26 Try.underlying5 rfl hst) ?_
  rintro _ w ⟨b7, cap7, pad7, rfl, hcap7, hstn⟩
  clear hst
  have hst := hstn
  clear hstn
  refine RW.op1 rfl (runs_assign rfl) ?_
  refine RW.done ?_
  refine AQ.next ?_
  refine CW.seq ?_
  refine CW.seq ?_
  -- region 2
  refine CW.region ?_
  refine RW.op1 rfl (runs_move rfl) ?_
  first
    | refine RW.op1 rfl (RdL.len Try.underlying26 rfl (by assumption)) ?_
    | refine RW.op1 rfl (runs_lenL Try.underlying26 rfl) ?_
    | refine RW.op1 rfl (Grow.len Try.underlying26 rfl (by assumption)) ?_
  refine RW.op1 rfl (runs_move rfl) ?_
  refine RW.done ?_
  refine AQ.next ?_
  refine CW.block ?_
  -- loop 1
  refine CW.loop Nat (fun k w => St w0 w I ((b7, rowB (lowTo s.toList k) pad7 5) :: L) ∧ k ≤ s.toList.length) (fun k => [(3, .slice (some ⟨b7, 0, none⟩) s.toList.length cap7), (8, .slice (some ⟨b7, 0, none⟩) s.toList.length cap7), (9, .int .i64 (s.toList.length : Int)), (10, .int .i64 (k : Int))]) (fun k => s.toList.length - k) ⟨0, ⟨by rw [lowTo_zero]; exact hst, Nat.zero_le _⟩, ⟨rfl, rfl, rfl, rfl, trivial⟩⟩ ?_
  rintro k w ⟨hstn, hk⟩
  clear hst
  have hst := hstn
  clear hstn
  refine CW.seq ?_
  -- region 3
  refine CW.region ?_
  refine RW.op1 rfl (runs_lss rfl rfl) ?_
  refine RW.done ?_
  refine AQ.next ?_
  refine CW.seq ?_
  refine CW.cond rfl (fun hc11 => ?_) (fun hc11 => ?_)
  · have hcb11 := hc11
    try simp only [decide_eq_true_eq, decide_eq_false_iff_not] at hc11
    have hk1 : k < s.toList.length := by omega
    have hget := rowB_get (bs := lowTo s.toList k) (pad := pad7) (k := k) (by rw [lowTo_length]; exact hk1)
    rw [lowTo_get hk1] at hget
    obtain ⟨c, hc⟩ : ∃ c, s.toList[k] = c := ⟨_, rfl⟩
    rw [hc] at hget
    have hcl := c.toNat_lt
    refine CW.skip ?_
    refine AQ.next ?_
    refine CW.seq ?_
    refine CW.block ?_
    refine CW.seq ?_
    -- region 4
    refine CW.region ?_
    refine RW.op1 rfl (runs_move rfl) ?_
    refine RW.op1 rfl (runs_indexAddr0 Try.underlying26 ti5 rfl rfl (by omega)) ?_
    refine RW.op1 rfl (runs_load1 sc5 rfl (hst.cell_own (k := 0) rfl (by rw [Nat.zero_add, Int.toNat_natCast, Nat.mul_one]; exact hget))) ?_
    refine RW.op1 rfl (runs_assign rfl) ?_
    refine RW.op1 rfl (runs_assign rfl) ?_
    refine RW.done ?_
    refine AQ.next ?_
    refine CW.seq ?_
    -- region 5
    refine CW.region ?_
    refine RW.op1 rfl (runs_move rfl) ?_
    refine RW.op1 rfl (runs_geq rfl rfl) ?_
    refine RW.op1 rfl (runs_move rfl) ?_
    refine RW.split (t := 17) rfl (fun hb17 => ?_) (fun hb17 => ?_)
    · have hb17p := hb17
      try simp only [decide_eq_true_eq, decide_eq_false_iff_not] at hb17p
      refine RW.on_guard rfl rfl rfl rfl hb17 ?_
      refine RW.op1 rfl (runs_move rfl) ?_
      refine RW.on_guard rfl rfl rfl rfl hb17 ?_
      refine RW.op1 rfl (runs_leq rfl rfl) ?_
      refine RW.op1 rfl (runs_pick_true rfl hb17 rfl) ?_
      refine RW.done ?_
      refine AQ.next ?_
      refine CW.cond rfl (fun hc20 => ?_) (fun hc20 => ?_)
      · have hcb20 := hc20
        try simp only [decide_eq_true_eq, decide_eq_false_iff_not] at hc20
        -- region 6
        refine CW.region ?_
        refine RW.op1 rfl (runs_move rfl) ?_
        refine RW.op1 rfl (runs_move rfl) ?_
        refine RW.op1 rfl (runs_move rfl) ?_
        refine RW.op1 rfl (runs_addW rfl rfl) ?_
        refine RW.op1 rfl (runs_indexAddr0 Try.underlying26 ti5 rfl rfl (by omega)) ?_
        refine RW.opE0 (runs_store1' ti5 rfl rfl hst (k := 0) rfl (by simp [lowTo_length]; omega) (NoFz.behind _) rfl) ?_
        rintro w hstn
        clear hst
        have hst := hstn
        clear hstn
        try simp only [List.set_cons_zero, List.set_cons_succ] at hst
        refine RW.done ?_
        refine AQ.block_normal ?_
        refine AQ.next ?_
        -- region 7
        refine CW.region ?_
        refine RW.op1 rfl (runs_add rfl rfl (by omega)) ?_
        refine RW.op1 rfl (runs_move rfl) ?_
        refine RW.done ?_
        have hlc : lowB c = u8 ((c.toNat : Int) + 32) := by unfold lowB; rw [if_pos (by omega)]
        have hv : Value.int .u8 (IntKind.u8.wrap ((c.toNat : Int) + 32)) = b8 (lowB c) := by
          rw [hlc]; unfold b8; rw [u8_toNat, IntKind.wrap_u8]
        have hset := rowB_set (bs := lowTo s.toList k) (pad := pad7) (lowB c) (k := k) (by rw [lowTo_length]; exact hk1)
        rw [lowTo_set hk1 (lowB c) (by rw [hc])] at hset
        simp only [Nat.zero_add, Int.toNat_natCast, Nat.mul_one] at hst
        rw [hv, hset, show ((lowTo s.toList k).map b8 ++ pad7).length = ((lowTo s.toList (k + 1)).map b8 ++ pad7).length by simp [lowTo_length]] at hst
        exact AQ.again (k + 1) ⟨hst, by omega⟩ ⟨rfl, rfl, rfl, rfl, trivial⟩ (by omega)
      · have hcb20 := hc20
        try simp only [decide_eq_true_eq, decide_eq_false_iff_not] at hc20
        refine CW.skip ?_
        refine AQ.block_normal ?_
        refine AQ.next ?_
        -- region 7
        refine CW.region ?_
        refine RW.op1 rfl (runs_add rfl rfl (by omega)) ?_
        refine RW.op1 rfl (runs_move rfl) ?_
        refine RW.done ?_
        have hlc : lowB s.toList[k] = s.toList[k] := by rw [hc]; unfold lowB; rw [if_neg (by omega)]
        exact AQ.again (k + 1) ⟨by rw [← lowTo_same hk1 hlc]; exact hst, by omega⟩ ⟨rfl, rfl, rfl, rfl, trivial⟩ (by omega)
    · have hb17p := hb17
      try simp only [decide_eq_true_eq, decide_eq_false_iff_not] at hb17p
      refine RW.off_guard rfl rfl rfl rfl hb17 ?_
      refine RW.off_guard rfl rfl rfl rfl hb17 ?_
      refine RW.op1 rfl (runs_pick_false rfl hb17 rfl) ?_
      refine RW.done ?_
      refine AQ.next ?_
      refine CW.cond_false rfl ?_
      refine CW.skip ?_
      refine AQ.block_normal ?_
      refine AQ.next ?_
      -- region 7
      refine CW.region ?_
      refine RW.op1 rfl (runs_add rfl rfl (by omega)) ?_
      refine RW.op1 rfl (runs_move rfl) ?_
      refine RW.done ?_
      have hlc : lowB s.toList[k] = s.toList[k] := by rw [hc]; unfold lowB; rw [if_neg (by omega)]
      exact AQ.again (k + 1) ⟨by rw [← lowTo_same hk1 hlc]; exact hst, by omega⟩ ⟨rfl, rfl, rfl, rfl, trivial⟩ (by omega)
  · have hcb11 := hc11
    try simp only [decide_eq_true_eq, decide_eq_false_iff_not] at hc11
    skip
    refine CW.exit ?_
    refine AQ.past_exit ?_
    refine AQ.past_exit ?_
    refine AQ.block_hit ?_
    refine AQ.next ?_
    refine CW.seq ?_
    -- region 8
    refine CW.region ?_
    have hke : k = s.toList.length := by omega
    subst hke
    rw [lowTo_end] at hst
    obtain ⟨I8, hI8, hstn, hr⟩ := rowB_freeze (cap := cap7) hst (by simp [lower]; omega)
    clear hst
    have hst := hstn
    clear hstn
    rw [show s.toList.length = (lower s.toList).length by simp [lower]]
    refine RW.op1 rfl (runs_move rfl) ?_
    refine RW.op1 rfl (RdB.string Try.underlying26 Try.underlying5 Try.underlying9 rfl hr hst) ?_
    refine RW.op1 rfl (runs_assign rfl) ?_
    refine RW.done ?_
    refine AQ.next ?_
    refine CW.ret ?_
    refine AQ.ret1 rfl rfl ?_
    exact ⟨I8, hI8, rfl, hst⟩
set_option maxRecDepth 100000 in
set_option maxHeartbeats 1000000 in
theorem refGet_spec {w0 w : World} {I : Imm} {L : Own} (hst : St w0 w I L) (n : ByteArray) (hn : n.size ≤ 9223372036854775807) {v : Value} {hs : List HRow} (hv : RdH I v hs) (hok : ∀ r ∈ hs, r.1.size ≤ 9223372036854775807) (hlen : hs.length ≤ 1000000) :
    Calls Try.prog 24 #[.string n, v] w fun e w' => ∃ I', Imm.le I I' ∧ e = .returned (.tuple #[.string (getH n hs).1, .bool (getH n hs).2]) ∧ St w0 w' I' L := by
  refine enter Try.func24 rfl (N := 23) rfl rfl ?_
  simp only [List.zipIdx_cons, List.zipIdx_nil, List.map_cons, List.map_nil, Nat.zero_add, Nat.reduceAdd]
  have hle := Imm.le.refl I
  refine CW.seq ?_
  -- region 0
  refine CW.region ?_
  refine RW.op1 rfl (runs_assign rfl) ?_
  refine RW.op1 rfl (runs_assign rfl) ?_
  refine RW.done ?_
  refine AQ.next ?_
  refine CW.seq ?_
  refine CW.seq ?_
  -- region 1
  refine CW.region ?_
  refine RW.op1 rfl (runs_move rfl) ?_
  refine RW.op1 rfl (RdL.len Try.underlying24 rfl hv) ?_
  refine RW.op1 rfl (runs_move rfl) ?_
  refine RW.done ?_
  refine AQ.next ?_
  refine CW.block ?_
  -- loop 1
  refine CW.loop (Nat × Imm) (fun x w => I.le x.2 ∧ St w0 w x.2 L ∧ x.1 ≤ hs.length ∧ ∀ r ∈ hs.take x.1, lowEq r.1 n = false) (fun x => [(0, .string n), (8, v), (9, .int .i64 (hs.length : Int)), (10, .int .i64 (x.1 : Int))]) (fun x => hs.length - x.1) ⟨(0, I), ⟨Imm.le.refl _, hst, Nat.zero_le _, by simp⟩, ⟨rfl, rfl, rfl, rfl, trivial⟩⟩ ?_
  rintro ⟨k, I5⟩ w ⟨hle, hstn, hk, hno⟩
  dsimp only at hle hstn hk hno ⊢
  clear hst
  have hst := hstn
  clear hstn
  have hv5 := RdL.mono hle hv
  refine CW.seq ?_
  -- region 2
  refine CW.region ?_
  refine RW.op1 rfl (runs_lss rfl rfl) ?_
  refine RW.done ?_
  refine AQ.next ?_
  refine CW.seq ?_
  refine CW.cond rfl (fun hc11 => ?_) (fun hc11 => ?_)
  · have hcb11 := hc11
    try simp only [decide_eq_true_eq, decide_eq_false_iff_not] at hc11
    have hk1 : k < hs.length := by omega
    obtain ⟨r, hr⟩ : ∃ r, hs[k] = r := ⟨_, rfl⟩
    have hr2 : hs[k]? = some r := by rw [List.getElem?_eq_getElem hk1, hr]
    have hrs := hok r (by rw [← hr]; exact List.getElem_mem _)
    refine CW.skip ?_
    refine AQ.next ?_
    refine CW.seq ?_
    refine CW.block ?_
    refine CW.seq ?_
    -- region 3
    refine CW.region ?_
    refine RW.op1 rfl (RdL.indexAddr Try.underlying24 ti28 (by decide) rfl rfl hv5 (by omega)) ?_
    refine RW.op1 rfl (RdL.loadRow (row := hrow r) ag28 ti28 rfl hv5 hst rfl (hrow_at hr2)) ?_
    refine RW.opE rfl (runs_alloc ti28 hst) ?_
    rintro _ w ⟨b1, rfl, hstn⟩
    clear hst
    have hst := hstn
    clear hstn
    first
      | refine RW.opE0 (runs_storeW ti28 rfl rfl hst (k := 0) rfl rfl rfl (NoFz.zero _) rfl) ?_
      | refine RW.opE0 (runs_storeP ti28 rfl rfl hst (k := 0) rfl rfl rfl (NoFz.zero _) rfl) ?_
      | refine RW.opE0 (runs_storeW ti28 rfl rfl hst (k := 1) rfl rfl rfl (NoFz.zero _) rfl) ?_
      | refine RW.opE0 (runs_storeP ti28 rfl rfl hst (k := 1) rfl rfl rfl (NoFz.zero _) rfl) ?_
      | refine RW.opE0 (runs_storeW ti28 rfl rfl hst (k := 2) rfl rfl rfl (NoFz.zero _) rfl) ?_
      | refine RW.opE0 (runs_storeP ti28 rfl rfl hst (k := 2) rfl rfl rfl (NoFz.zero _) rfl) ?_
    rintro w hstn
    clear hst
    have hst := hstn
    clear hstn
    try simp only [List.set_cons_zero, List.set_cons_succ] at hst
    refine RW.done ?_
    refine AQ.next ?_
    refine CW.seq ?_
    -- region 4
    refine CW.region ?_
    first
      | refine RW.op1 rfl (runs_fieldAddr0 rfl Try.underlying28 rfl ti9 (by decide)) ?_
      | refine RW.op1 rfl (runs_fieldAddr rfl Try.underlying28 rfl ti9 (by decide)) ?_
    first
      | refine RW.op1 rfl (runs_load1 sc9 rfl (hst.cell_own (k := 0) rfl rfl)) ?_
      | refine RW.op1 rfl (runs_load1 sc9 rfl (hst.cell_own (k := 1) rfl rfl)) ?_
      | refine RW.op1 rfl (runs_load1 sc9 rfl (hst.cell_own (k := 2) rfl rfl)) ?_
    refine RW.call rfl call29 rfl rfl (refLower_spec hst r.1 hrs) ?_
    rintro e w ⟨I3, hI3, rfl, hstn⟩
    clear hst
    have hst := hstn
    clear hstn
    replace hle := hle.trans hI3
    refine ⟨_, rfl, ?_⟩
    refine RW.op1 rfl (runs_move rfl) ?_
    refine RW.call rfl call29 rfl rfl (refLower_spec hst n hn) ?_
    rintro e w ⟨I4, hI4, rfl, hstn⟩
    clear hst
    have hst := hstn
    clear hstn
    replace hle := hle.trans hI4
    refine ⟨_, rfl, ?_⟩
    refine RW.op1 rfl (runs_eqS rfl rfl) ?_
    refine RW.done ?_
    refine AQ.next ?_
    refine CW.cond rfl (fun hc19 => ?_) (fun hc19 => ?_)
    · have hcb19 := hc19
      try simp only [decide_eq_true_eq, decide_eq_false_iff_not] at hc19
      simp only [strOf_toList] at hc19 hcb19
      refine CW.seq ?_
      -- region 5
      refine CW.region ?_
      first
        | refine RW.op1 rfl (runs_fieldAddr0 rfl Try.underlying28 rfl ti9 (by decide)) ?_
        | refine RW.op1 rfl (runs_fieldAddr rfl Try.underlying28 rfl ti9 (by decide)) ?_
      first
        | refine RW.op1 rfl (runs_load1 sc9 rfl (hst.cell_own (k := 0) rfl rfl)) ?_
        | refine RW.op1 rfl (runs_load1 sc9 rfl (hst.cell_own (k := 1) rfl rfl)) ?_
        | refine RW.op1 rfl (runs_load1 sc9 rfl (hst.cell_own (k := 2) rfl rfl)) ?_
      refine RW.op1 rfl (runs_assign rfl) ?_
      refine RW.op1 rfl (runs_assign rfl) ?_
      refine RW.done ?_
      refine AQ.next ?_
      refine CW.ret ?_
      refine AQ.block_ret ?_
      refine AQ.past_ret ?_
      refine AQ.past_ret ?_
      refine AQ.block_ret ?_
      refine AQ.past_ret ?_
      refine AQ.ret2 rfl rfl rfl ?_
      have hf : getH n hs = (r.2, true) := by unfold getH; rw [find_take hno hk1 (by rw [hr]; exact hcb19), hr]
      rw [hf]
      exact ⟨_, hle, rfl, hst.drop1⟩
    · have hcb19 := hc19
      try simp only [decide_eq_true_eq, decide_eq_false_iff_not] at hc19
      simp only [strOf_toList] at hc19 hcb19
      refine CW.skip ?_
      refine AQ.block_normal ?_
      refine AQ.next ?_
      -- region 6
      refine CW.region ?_
      refine RW.op1 rfl (runs_add rfl rfl (by omega)) ?_
      refine RW.op1 rfl (runs_move rfl) ?_
      refine RW.done ?_
      exact AQ.again (x := (k, I5)) (k + 1, _) ⟨hle, hst.drop1, by omega, take_more hno hk1 (by rw [hr]; exact hcb19)⟩ ⟨rfl, rfl, rfl, rfl, trivial⟩ (by dsimp only; omega)
  · have hcb11 := hc11
    try simp only [decide_eq_true_eq, decide_eq_false_iff_not] at hc11
    skip
    refine CW.exit ?_
    refine AQ.past_exit ?_
    refine AQ.past_exit ?_
    refine AQ.block_hit ?_
    refine AQ.next ?_
    refine CW.seq ?_
    -- region 7
    refine CW.region ?_
    refine RW.op1 rfl (runs_assign rfl) ?_
    refine RW.op1 rfl (runs_assign rfl) ?_
    refine RW.done ?_
    refine AQ.next ?_
    refine CW.ret ?_
    refine AQ.ret2 rfl rfl rfl ?_
    have hf : getH n hs = (⟨#[]⟩, false) := by unfold getH; rw [find_no hno (by omega)]
    rw [hf]
    exact ⟨_, hle, rfl, hst⟩
set_option maxRecDepth 100000 in
set_option maxHeartbeats 1000000 in
theorem figures_spec {w0 w : World} {I : Imm} {L : Own} (hst : St w0 w I L) (s : ByteArray) (hs : s.size ≤ 9223372036854775807) :
    Calls Try.prog 25 #[.string s, .int .i64 1, .int .i64 6] w fun e w' => e = .returned (.tuple #[.int .i64 ((numberR s.toList).getD 0), .bool (numberR s.toList).isSome]) ∧ St w0 w' I L := by
  have hsl := size_toList s
  refine enter Try.func25 rfl (N := 45) rfl rfl ?_
  simp only [List.zipIdx_cons, List.zipIdx_nil, List.map_cons, List.map_nil, Nat.zero_add, Nat.reduceAdd]
  have hle := Imm.le.refl I
  refine CW.seq ?_
  -- region 0
  refine CW.region ?_
  refine RW.op1 rfl (runs_assign rfl) ?_
  refine RW.op1 rfl (runs_assign rfl) ?_
  refine RW.done ?_
  refine AQ.next ?_
  refine CW.seq ?_
  refine CW.seq ?_
  -- region 1
  refine CW.region ?_
  refine RW.op1 rfl (runs_move rfl) ?_
  refine RW.op1 rfl (runs_lenS Try.underlying9 rfl) ?_
  refine RW.op1 rfl (runs_move rfl) ?_
  refine RW.op1 rfl (runs_lss rfl rfl) ?_
  refine RW.op1 rfl (runs_move rfl) ?_
  refine RW.split (t := 14) rfl (fun hb14 => ?_) (fun hb14 => ?_)
  · have hb14p := hb14
    try simp only [decide_eq_true_eq, decide_eq_false_iff_not] at hb14p
    refine RW.off_guard rfl rfl rfl rfl hb14 ?_
    refine RW.off_guard rfl rfl rfl rfl hb14 ?_
    refine RW.off_guard rfl rfl rfl rfl hb14 ?_
    refine RW.off_guard rfl rfl rfl rfl hb14 ?_
    refine RW.op1 rfl (runs_pick_true rfl hb14 rfl) ?_
    refine RW.done ?_
    refine AQ.next ?_
    refine CW.cond_true rfl ?_
    refine CW.seq ?_
    -- region 2
    refine CW.region ?_
    refine RW.op1 rfl (runs_assign rfl) ?_
    refine RW.op1 rfl (runs_assign rfl) ?_
    refine RW.done ?_
    refine AQ.next ?_
    refine CW.ret ?_
    refine AQ.past_ret ?_
    refine AQ.ret2 rfl rfl rfl ?_
    rw [number_len (by omega)]
    exact ⟨rfl, hst⟩
  · have hb14p := hb14
    try simp only [decide_eq_true_eq, decide_eq_false_iff_not] at hb14p
    refine RW.on_guard rfl rfl rfl rfl hb14 ?_
    refine RW.op1 rfl (runs_move rfl) ?_
    refine RW.on_guard rfl rfl rfl rfl hb14 ?_
    refine RW.op1 rfl (runs_lenS Try.underlying9 rfl) ?_
    refine RW.on_guard rfl rfl rfl rfl hb14 ?_
    refine RW.op1 rfl (runs_move rfl) ?_
    refine RW.on_guard rfl rfl rfl rfl hb14 ?_
    refine RW.op1 rfl (runs_gtr rfl rfl) ?_
    refine RW.op1 rfl (runs_pick_false rfl hb14 rfl) ?_
    refine RW.done ?_
    refine AQ.next ?_
    refine CW.cond rfl (fun hc19 => ?_) (fun hc19 => ?_)
    · have hcb19 := hc19
      try simp only [decide_eq_true_eq, decide_eq_false_iff_not] at hc19
      refine CW.seq ?_
      -- region 2
      refine CW.region ?_
      refine RW.op1 rfl (runs_assign rfl) ?_
      refine RW.op1 rfl (runs_assign rfl) ?_
      refine RW.done ?_
      refine AQ.next ?_
      refine CW.ret ?_
      refine AQ.past_ret ?_
      refine AQ.ret2 rfl rfl rfl ?_
      rw [number_len (by omega)]
      exact ⟨rfl, hst⟩
    · have hcb19 := hc19
      try simp only [decide_eq_true_eq, decide_eq_false_iff_not] at hc19
      refine CW.skip ?_
      refine AQ.next ?_
      refine CW.seq ?_
      -- region 3
      refine CW.region ?_
      refine RW.op1 rfl (runs_assign rfl) ?_
      refine RW.done ?_
      refine AQ.next ?_
      refine CW.seq ?_
      refine CW.seq ?_
      -- region 4
      refine CW.region ?_
      refine RW.op1 rfl (runs_assign rfl) ?_
      refine RW.done ?_
      refine AQ.next ?_
      refine CW.block ?_
      -- loop 1
      refine CW.loop Nat (fun k w => St w0 w I L ∧ k ≤ s.size ∧ (s.toList.take k).all isDigit = true) (fun k => [(0, .string s), (8, .int .i64 ((s.toList.take k).foldl digStep 0)), (9, .int .i64 (k : Int))]) (fun k => s.size - k) ⟨0, ⟨hst, Nat.zero_le _, by simp⟩, ⟨rfl, rfl, rfl, trivial⟩⟩ ?_
      rintro k w ⟨hstn, hk, hall⟩
      clear hst
      have hst := hstn
      clear hstn
      refine CW.seq ?_
      refine CW.seq ?_
      -- region 5
      refine CW.region ?_
      refine RW.op1 rfl (runs_move rfl) ?_
      refine RW.op1 rfl (runs_move rfl) ?_
      refine RW.op1 rfl (runs_lenS Try.underlying9 rfl) ?_
      refine RW.op1 rfl (runs_lss rfl rfl) ?_
      refine RW.done ?_
      refine AQ.next ?_
      refine CW.cond rfl (fun hc23 => ?_) (fun hc23 => ?_)
      · have hcb23 := hc23
        try simp only [decide_eq_true_eq, decide_eq_false_iff_not] at hc23
        have hk1 : k < s.size := by omega
        have hk2 : k < s.toList.length := by omega
        obtain ⟨c, hc⟩ : ∃ c, s.toList[k] = c := ⟨_, rfl⟩
        have hbg : s[(k : Int).toNat]'(by omega) = c := by rw [← hc]; exact bget hk1
        have hcl := c.toNat_lt
        have hb6 := dig_bound 6 (s.toList.take k) (by rw [List.length_take]; omega) hall
        refine CW.skip ?_
        refine AQ.next ?_
        refine CW.seq ?_
        refine CW.block ?_
        refine CW.seq ?_
        refine CW.seq ?_
        -- region 7
        refine CW.region ?_
        refine RW.op1 rfl (runs_move rfl) ?_
        refine RW.op1 rfl (runs_move rfl) ?_
        refine RW.op1 rfl (runs_indexS Try.underlying9 rfl rfl (by omega) (by omega)) ?_
        rw [hbg]
        refine RW.op1 rfl (runs_lss rfl rfl) ?_
        refine RW.op1 rfl (runs_move rfl) ?_
        refine RW.split (t := 30) rfl (fun hb30 => ?_) (fun hb30 => ?_)
        · have hb30p := hb30
          try simp only [decide_eq_true_eq, decide_eq_false_iff_not] at hb30p
          refine RW.off_guard rfl rfl rfl rfl hb30 ?_
          refine RW.off_guard rfl rfl rfl rfl hb30 ?_
          refine RW.off_guard rfl rfl rfl rfl hb30 ?_
          refine RW.off_guard rfl rfl rfl rfl hb30 ?_
          refine RW.op1 rfl (runs_pick_true rfl hb30 rfl) ?_
          refine RW.done ?_
          refine AQ.next ?_
          refine CW.cond_true rfl ?_
          refine CW.seq ?_
          -- region 8
          refine CW.region ?_
          refine RW.op1 rfl (runs_assign rfl) ?_
          refine RW.op1 rfl (runs_assign rfl) ?_
          refine RW.done ?_
          refine AQ.next ?_
          refine CW.ret ?_
          refine AQ.past_ret ?_
          refine AQ.block_ret ?_
          refine AQ.past_ret ?_
          refine AQ.past_ret ?_
          refine AQ.block_ret ?_
          refine AQ.past_ret ?_
          refine AQ.ret2 rfl rfl rfl ?_
          rw [number_bad hk2 (by rw [hc]; unfold isDigit; rw [Bool.and_eq_false_iff]; simp only [decide_eq_false_iff_not]; omega)]
          exact ⟨rfl, hst⟩
        · have hb30p := hb30
          try simp only [decide_eq_true_eq, decide_eq_false_iff_not] at hb30p
          refine RW.on_guard rfl rfl rfl rfl hb30 ?_
          refine RW.op1 rfl (runs_move rfl) ?_
          refine RW.on_guard rfl rfl rfl rfl hb30 ?_
          refine RW.op1 rfl (runs_move rfl) ?_
          refine RW.on_guard rfl rfl rfl rfl hb30 ?_
          refine RW.op1 rfl (runs_indexS Try.underlying9 rfl rfl (by omega) (by omega)) ?_
          rw [hbg]
          refine RW.on_guard rfl rfl rfl rfl hb30 ?_
          refine RW.op1 rfl (runs_gtr rfl rfl) ?_
          refine RW.op1 rfl (runs_pick_false rfl hb30 rfl) ?_
          refine RW.done ?_
          refine AQ.next ?_
          refine CW.cond rfl (fun hc35 => ?_) (fun hc35 => ?_)
          · have hcb35 := hc35
            try simp only [decide_eq_true_eq, decide_eq_false_iff_not] at hc35
            refine CW.seq ?_
            -- region 8
            refine CW.region ?_
            refine RW.op1 rfl (runs_assign rfl) ?_
            refine RW.op1 rfl (runs_assign rfl) ?_
            refine RW.done ?_
            refine AQ.next ?_
            refine CW.ret ?_
            refine AQ.past_ret ?_
            refine AQ.block_ret ?_
            refine AQ.past_ret ?_
            refine AQ.past_ret ?_
            refine AQ.block_ret ?_
            refine AQ.past_ret ?_
            refine AQ.ret2 rfl rfl rfl ?_
            rw [number_bad hk2 (by rw [hc]; unfold isDigit; rw [Bool.and_eq_false_iff]; simp only [decide_eq_false_iff_not]; omega)]
            exact ⟨rfl, hst⟩
          · have hcb35 := hc35
            try simp only [decide_eq_true_eq, decide_eq_false_iff_not] at hc35
            refine CW.skip ?_
            refine AQ.next ?_
            -- region 9
            refine CW.region ?_
            refine RW.op1 rfl (runs_move rfl) ?_
            refine RW.op1 rfl (runs_mul rfl rfl (by omega)) ?_
            refine RW.op1 rfl (runs_move rfl) ?_
            refine RW.op1 rfl (runs_move rfl) ?_
            refine RW.op1 rfl (runs_indexS Try.underlying9 rfl rfl (by omega) (by omega)) ?_
            rw [hbg]
            refine RW.op1 rfl (runs_subW rfl rfl) ?_
            rw [show IntKind.u8.wrap ((c.toNat : Int) - 48) = (c.toNat : Int) - 48 by rw [IntKind.wrap_u8]; omega]
            refine RW.op1 rfl (runs_conv64 (by rw [Try.underlying5]; rfl) Try.underlying3 rfl (by omega)) ?_
            refine RW.op1 rfl (runs_add rfl rfl (by omega)) ?_
            refine RW.op1 rfl (runs_assign rfl) ?_
            refine RW.done ?_
            refine AQ.block_normal ?_
            refine AQ.next ?_
            -- region 6
            refine CW.region ?_
            refine RW.op1 rfl (runs_move rfl) ?_
            refine RW.op1 rfl (runs_add rfl rfl (by omega)) ?_
            refine RW.op1 rfl (runs_assign rfl) ?_
            refine RW.done ?_
            have hd : isDigit s.toList[k] = true := by rw [hc]; unfold isDigit; simp only [Bool.and_eq_true, decide_eq_true_eq]; omega
            exact AQ.again (k + 1) ⟨hst, by omega, dig_all hall hk2 hd⟩ ⟨rfl, by rw [dig_take hk2, hc]; rfl, rfl, trivial⟩ (by omega)
      · have hcb23 := hc23
        try simp only [decide_eq_true_eq, decide_eq_false_iff_not] at hc23
        skip
        refine CW.exit ?_
        refine AQ.past_exit ?_
        refine AQ.past_exit ?_
        refine AQ.block_hit ?_
        refine AQ.next ?_
        refine CW.seq ?_
        -- region 10
        refine CW.region ?_
        refine RW.op1 rfl (runs_move rfl) ?_
        refine RW.op1 rfl (runs_assign rfl) ?_
        refine RW.op1 rfl (runs_assign rfl) ?_
        refine RW.done ?_
        refine AQ.next ?_
        refine CW.ret ?_
        refine AQ.ret2 rfl rfl rfl ?_
        have hkt : s.toList.take k = s.toList := List.take_of_length_le (by omega)
        rw [hkt] at hall ⊢
        rw [number_ok (by omega) hall]
        exact ⟨rfl, hst⟩
set_option maxRecDepth 100000 in
set_option maxHeartbeats 1000000 in
theorem refAfter_spec {w0 w : World} {I : Imm} {L : Own} (hst : St w0 w I L) (t : Int) {v : Value} {hs : List HRow} (hv : RdH I v hs) (hok : ∀ r ∈ hs, r.1.size ≤ 9223372036854775807) (hok2 : ∀ r ∈ hs, r.2.size ≤ 9223372036854775807) (hlen : hs.length ≤ 1000000) :
    Calls Try.prog 17 #[.int .i64 t, v] w fun e w' => ∃ I', Imm.le I I' ∧ e = .returned (.int .i64 (afterR t hs)) ∧ St w0 w' I' L := by
  refine enter Try.func17 rfl (N := 24) rfl rfl ?_
  simp only [List.zipIdx_cons, List.zipIdx_nil, List.map_cons, List.map_nil, Nat.zero_add, Nat.reduceAdd]
  have hle := Imm.le.refl I
  refine CW.seq ?_
  -- region 0
  refine CW.region ?_
  refine RW.op1 rfl (runs_assign rfl) ?_
  refine RW.done ?_
  refine AQ.next ?_
  refine CW.seq ?_
  -- region 1
  refine CW.region ?_
  refine RW.op1 rfl (runs_move rfl) ?_
  refine RW.call rfl call24 rfl rfl (refGet_spec hst retryN (by decide) hv hok hlen) ?_
  rintro e w ⟨I1, hI1, rfl, hstn⟩
  clear hst
  have hst := hstn
  clear hstn
  replace hle := hle.trans hI1
  refine ⟨_, rfl, ?_⟩
  refine RW.op1 rfl (runs_move rfl) ?_
  refine RW.op1 rfl (runs_extract rfl rfl) ?_
  refine RW.op1 rfl (runs_extract rfl rfl) ?_
  refine RW.op1 rfl (runs_assign rfl) ?_
  refine RW.op1 rfl (runs_assign rfl) ?_
  refine RW.done ?_
  refine AQ.next ?_
  refine CW.seq ?_
  -- region 2
  refine CW.region ?_
  refine RW.op1 rfl (runs_move rfl) ?_
  refine RW.call rfl call25 rfl rfl (figures_spec hst (getH retryN hs).1 (getH_size hok2)) ?_
  rintro e w ⟨rfl, hstn⟩
  clear hst
  have hst := hstn
  clear hstn
  refine ⟨_, rfl, ?_⟩
  refine RW.op1 rfl (runs_move rfl) ?_
  refine RW.op1 rfl (runs_extract rfl rfl) ?_
  refine RW.op1 rfl (runs_extract rfl rfl) ?_
  refine RW.op1 rfl (runs_assign rfl) ?_
  refine RW.op1 rfl (runs_assign rfl) ?_
  refine RW.done ?_
  refine AQ.next ?_
  refine CW.seq ?_
  -- region 3
  refine CW.region ?_
  refine RW.op1 rfl (runs_move rfl) ?_
  refine RW.call rfl call16 rfl rfl (refDelay_spec hst t) ?_
  rintro e w ⟨rfl, hstn⟩
  clear hst
  have hst := hstn
  clear hstn
  refine ⟨_, rfl, ?_⟩
  refine RW.op1 rfl (runs_move rfl) ?_
  refine RW.op1 rfl (runs_min rfl rfl) ?_
  refine RW.op1 rfl (runs_max rfl rfl) ?_
  refine RW.op1 rfl (runs_assign rfl) ?_
  refine RW.done ?_
  refine AQ.next ?_
  refine CW.ret ?_
  refine AQ.ret1 rfl rfl ?_
  exact ⟨_, hle, rfl, hst⟩
set_option maxRecDepth 100000 in
set_option maxHeartbeats 1000000 in
theorem wakes16_spec {w0 w : World} {I : Imm} {L : Own} (hst : St w0 w I L) :
    Calls Try.prog 14 #[] w fun e w' => e = .returned (.bool true) ∧ ∃ I', I.le I' ∧ St w0 w' I' L := by
  refine enter Try.func14 rfl (N := 10) rfl rfl ?_
  simp only [List.zipIdx_cons, List.zipIdx_nil, List.map_cons, List.map_nil, Nat.zero_add, Nat.reduceAdd]
  have hle := Imm.le.refl I
  refine CW.seq ?_
  -- region 0
  refine CW.region ?_
  refine RW.op1 rfl (runs_assign rfl) ?_
  refine RW.done ?_
  refine AQ.next ?_
  refine CW.seq ?_
  -- region 1
  refine CW.region ?_
  refine RW.call rfl call11 rfl rfl (delay_spec hst 1) ?_
  rintro e w ⟨rfl, hstn⟩
  clear hst
  have hst := hstn
  clear hstn
  refine ⟨_, rfl, ?_⟩
  refine RW.op1 rfl (runs_eqI rfl rfl) ?_
  refine RW.op1 rfl (runs_move rfl) ?_
  have hk3 := (show decide (delayR 1 = 2) = true from by decide)
  refine RW.on_guard rfl rfl rfl rfl hk3 ?_
  refine RW.call rfl call13 rfl rfl (again_spec hst 503) ?_
  rintro e w ⟨I2, hI2, rfl, hstn⟩
  clear hst
  have hst := hstn
  clear hstn
  replace hle := hle.trans hI2
  refine ⟨_, rfl, ?_⟩
  refine RW.op1 rfl (runs_pick_true rfl hk3 rfl) ?_
  refine RW.op1 rfl (runs_move rfl) ?_
  have hk6 := (show decide ((503 : Int) ∈ codesR) = true from by decide)
  refine RW.on_guard rfl rfl rfl rfl hk6 ?_
  refine RW.call rfl call13 rfl rfl (again_spec hst 404) ?_
  rintro e w ⟨I3, hI3, rfl, hstn⟩
  clear hst
  have hst := hstn
  clear hstn
  replace hle := hle.trans hI3
  refine ⟨_, rfl, ?_⟩
  refine RW.on_guard rfl rfl rfl rfl hk6 ?_
  refine RW.op1 rfl (runs_not rfl) ?_
  refine RW.op1 rfl (runs_pick_true rfl hk6 rfl) ?_
  refine RW.op1 rfl (runs_assign rfl) ?_
  refine RW.done ?_
  refine AQ.next ?_
  refine CW.ret ?_
  refine AQ.ret1 rfl rfl ?_
  exact ⟨rfl, _, hle, hst⟩
end Go.Proofs.YtdelipmhginegaaX
