/- Blanks trimmed, simple headers, common methods: what these come to. -/
import Derived.Test.YtfdgnjbbchkgpaaDoorT
import Derived.Test.YtfdgnjbbchkgpaaDoorC0
import Derived.Test.YtfdgnjbbchkgpaaDoorSH
import Derived.Test.YtfdgnjbbchkgpaaDoorXW
import Derived.Test.YtfdgnjbbchkgpaaDoorXU
import Derived.Test.YtfdgnjbbchkgpaaDoorH1
namespace Go.Proofs.YtfdgnjbbchkgpaaDoorX
set_option linter.unusedVariables false
set_option linter.unusedSimpArgs false
open Go Go.RowKit Go.Proofs

set_option maxRecDepth 100000 in
set_option maxHeartbeats 1000000 in
theorem refLower_spec {w0 w : World} {I : Imm} {L : Own} (hst : St w0 w I L) (s : ByteArray) (hs : s.size ≤ 9223372036854775807) :
    Calls Tryd.prog 37 #[.string s] w fun e w' => ∃ I' , Imm.le I I' ∧ e = .returned (.string (strOf (lower s.toList))) ∧ St w0 w' I' L := by
  have hsl := size_toList s
  refine enter Tryd.func37 rfl (N := 29) rfl rfl ?_
  simp only [List.zipIdx_cons, List.zipIdx_nil, List.map_cons, List.map_nil, Nat.zero_add, Nat.reduceAdd]
  have hle := Imm.le.refl I
  refine CW.seq ?_
  -- region 0
  refine CW.region ?_
  refine RW.op1 rfl (runs_assign rfl) ?_
  refine RW.done ?_
  refine AQ.next ?_
  refine CW.seq ?_
  -- region 1
  refine CW.region ?_
  refine RW.op1 rfl (runs_move rfl) ?_
  refine RW.opE rfl (runs_bytesOf Tryd.underlying9 Tryd.underlying60 Tryd.underlying5 rfl hst) ?_
  rintro _ w ⟨b7, cap7, pad7, rfl, hcap7, hstn⟩
  clear hst
  have hst := hstn
  clear hstn
  refine RW.op1 rfl (runs_assign rfl) ?_
  refine RW.done ?_
  refine AQ.next ?_
  refine CW.seq ?_
  refine CW.seq ?_
  -- region 2
  refine CW.region ?_
  refine RW.op1 rfl (runs_move rfl) ?_
  first
    | refine RW.op1 rfl (RdL.len Tryd.underlying60 rfl (by assumption)) ?_
    | refine RW.op1 rfl (runs_lenL Tryd.underlying60 rfl) ?_
    | refine RW.op1 rfl (Grow.len Tryd.underlying60 rfl (by assumption)) ?_
  refine RW.op1 rfl (runs_move rfl) ?_
  refine RW.done ?_
  refine AQ.next ?_
  refine CW.block ?_
  -- loop 1
  refine CW.loop Nat (fun k w => St w0 w I ((b7, rowB (lowTo s.toList k) pad7 5) :: L) ∧ k ≤ s.toList.length) (fun k => [(3, .slice (some ⟨b7, 0, none⟩) s.toList.length cap7), (8, .slice (some ⟨b7, 0, none⟩) s.toList.length cap7), (9, .int .i64 (s.toList.length : Int)), (10, .int .i64 (k : Int))]) (fun k => s.toList.length - k) ⟨0, ⟨by rw [lowTo_zero]; exact hst, Nat.zero_le _⟩, ⟨rfl, rfl, rfl, rfl, trivial⟩⟩ ?_
  rintro k w ⟨hstn, hk⟩
  clear hst
  have hst := hstn
  clear hstn
  refine CW.seq ?_
  -- region 3
  refine CW.region ?_
  refine RW.op1 rfl (runs_lss rfl rfl) ?_
  refine RW.done ?_
  refine AQ.next ?_
  refine CW.seq ?_
  refine CW.cond rfl (fun hc11 => ?_) (fun hc11 => ?_)
  · have hcb11 := hc11
    try simp only [decide_eq_true_eq, decide_eq_false_iff_not] at hc11
    have hk1 : k < s.toList.length := by omega
    have hget := rowB_get (bs := lowTo s.toList k) (pad := pad7) (k := k) (by rw [lowTo_length]; exact hk1)
    rw [lowTo_get hk1] at hget
    obtain ⟨c, hc⟩ : ∃ c, s.toList[k] = c := ⟨_, rfl⟩
    rw [hc] at hget
    have hcl := c.toNat_lt
    refine CW.skip ?_
    refine AQ.next ?_
    refine CW.seq ?_
    refine CW.block ?_
    refine CW.seq ?_
    -- region 4
    refine CW.region ?_
    refine RW.op1 rfl (runs_move rfl) ?_
    refine RW.op1 rfl (runs_indexAddr0 Tryd.underlying60 ti5 rfl rfl (by omega)) ?_
    refine RW.op1 rfl (runs_load1 sc5 rfl (hst.cell_own (k := 0) rfl (by rw [Nat.zero_add, Int.toNat_natCast, Nat.mul_one]; exact hget))) ?_
    refine RW.op1 rfl (runs_assign rfl) ?_
    refine RW.op1 rfl (runs_assign rfl) ?_
    refine RW.done ?_
    refine AQ.next ?_
    refine CW.seq ?_
    -- region 5
    refine CW.region ?_
    refine RW.op1 rfl (runs_move rfl) ?_
    refine RW.op1 rfl (runs_geq rfl rfl) ?_
    refine RW.op1 rfl (runs_move rfl) ?_
    refine RW.split (t := 17) rfl (fun hb17 => ?_) (fun hb17 => ?_)
    · have hb17p := hb17
      try simp only [decide_eq_true_eq, decide_eq_false_iff_not] at hb17p
      refine RW.on_guard rfl rfl rfl rfl hb17 ?_
      refine RW.op1 rfl (runs_move rfl) ?_
      refine RW.on_guard rfl rfl rfl rfl hb17 ?_
      refine RW.op1 rfl (runs_leq rfl rfl) ?_
      refine RW.op1 rfl (runs_pick_true rfl hb17 rfl) ?_
      refine RW.done ?_
      refine AQ.next ?_
      refine CW.cond rfl (fun hc20 => ?_) (fun hc20 => ?_)
      · have hcb20 := hc20
        try simp only [decide_eq_true_eq, decide_eq_false_iff_not] at hc20
        -- region 6
        refine CW.region ?_
        refine RW.op1 rfl (runs_move rfl) ?_
        refine RW.op1 rfl (runs_move rfl) ?_
        refine RW.op1 rfl (runs_move rfl) ?_
        refine RW.op1 rfl (runs_addW rfl rfl) ?_
        refine RW.op1 rfl (runs_indexAddr0 Tryd.underlying60 ti5 rfl rfl (by omega)) ?_
        refine RW.opE0 (runs_store1' ti5 rfl rfl hst (k := 0) rfl (by simp [lowTo_length]; omega) (NoFz.behind _) rfl) ?_
        rintro w hstn
        clear hst
        have hst := hstn
        clear hstn
        try simp only [List.set_cons_zero, List.set_cons_succ] at hst
        refine RW.done ?_
        refine AQ.block_normal ?_
        refine AQ.next ?_
        -- region 7
        refine CW.region ?_
        refine RW.op1 rfl (runs_add rfl rfl (by omega)) ?_
        refine RW.op1 rfl (runs_move rfl) ?_
        refine RW.done ?_
        have hlc : lowB c = u8 ((c.toNat : Int) + 32) := by unfold lowB; rw [if_pos (by omega)]
        have hv : Value.int .u8 (IntKind.u8.wrap ((c.toNat : Int) + 32)) = b8 (lowB c) := by
          rw [hlc]; unfold b8; rw [u8_toNat, IntKind.wrap_u8]
        have hset := rowB_set (bs := lowTo s.toList k) (pad := pad7) (lowB c) (k := k) (by rw [lowTo_length]; exact hk1)
        rw [lowTo_set hk1 (lowB c) (by rw [hc])] at hset
        simp only [Nat.zero_add, Int.toNat_natCast, Nat.mul_one] at hst
        rw [hv, hset, show ((lowTo s.toList k).map b8 ++ pad7).length = ((lowTo s.toList (k + 1)).map b8 ++ pad7).length by simp [lowTo_length]] at hst
        exact AQ.again (k + 1) ⟨hst, by omega⟩ ⟨rfl, rfl, rfl, rfl, trivial⟩ (by omega)
      · have hcb20 := hc20
        try simp only [decide_eq_true_eq, decide_eq_false_iff_not] at hc20
        refine CW.skip ?_
        refine AQ.block_normal ?_
        refine AQ.next ?_
        -- region 7
        refine CW.region ?_
        refine RW.op1 rfl (runs_add rfl rfl (by omega)) ?_
        refine RW.op1 rfl (runs_move rfl) ?_
        refine RW.done ?_
        have hlc : lowB s.toList[k] = s.toList[k] := by rw [hc]; unfold lowB; rw [if_neg (by omega)]
        exact AQ.again (k + 1) ⟨by rw [← lowTo_same hk1 hlc]; exact hst, by omega⟩ ⟨rfl, rfl, rfl, rfl, trivial⟩ (by omega)
    · have hb17p := hb17
      try simp only [decide_eq_true_eq, decide_eq_false_iff_not] at hb17p
      refine RW.off_guard rfl rfl rfl rfl hb17 ?_
      refine RW.off_guard rfl rfl rfl rfl hb17 ?_
      refine RW.op1 rfl (runs_pick_false rfl hb17 rfl) ?_
      refine RW.done ?_
      refine AQ.next ?_
      refine CW.cond_false rfl ?_
      refine CW.skip ?_
      refine AQ.block_normal ?_
      refine AQ.next ?_
      -- region 7
      refine CW.region ?_
      refine RW.op1 rfl (runs_add rfl rfl (by omega)) ?_
      refine RW.op1 rfl (runs_move rfl) ?_
      refine RW.done ?_
      have hlc : lowB s.toList[k] = s.toList[k] := by rw [hc]; unfold lowB; rw [if_neg (by omega)]
      exact AQ.again (k + 1) ⟨by rw [← lowTo_same hk1 hlc]; exact hst, by omega⟩ ⟨rfl, rfl, rfl, rfl, trivial⟩ (by omega)
  · have hcb11 := hc11
    try simp only [decide_eq_true_eq, decide_eq_false_iff_not] at hc11
    skip
    refine CW.exit ?_
    refine AQ.past_exit ?_
    refine AQ.past_exit ?_
    refine AQ.block_hit ?_
    refine AQ.next ?_
    refine CW.seq ?_
    -- region 8
    refine CW.region ?_
    have hke : k = s.toList.length := by omega
    subst hke
    rw [lowTo_end] at hst
    obtain ⟨I8, hI8, hstn, hr⟩ := rowB_freeze (cap := cap7) hst (by simp [lower]; omega)
    clear hst
    have hst := hstn
    clear hstn
    rw [show s.toList.length = (lower s.toList).length by simp [lower]]
    refine RW.op1 rfl (runs_move rfl) ?_
    refine RW.op1 rfl (RdB.string Tryd.underlying60 Tryd.underlying5 Tryd.underlying9 rfl hr hst) ?_
    refine RW.op1 rfl (runs_assign rfl) ?_
    refine RW.done ?_
    refine AQ.next ?_
    refine CW.ret ?_
    refine AQ.ret1 rfl rfl ?_
    exact ⟨I8, hI8, rfl, hst⟩
set_option maxRecDepth 100000 in
set_option maxHeartbeats 1000000 in
theorem refGet_spec {w0 w : World} {I : Imm} {L : Own} (hst : St w0 w I L) (n : ByteArray) (hn : n.size ≤ 9223372036854775807) {v : Value} {hs : List HRow} (hv : RdH I v hs) (hok : ∀ r ∈ hs, r.1.size ≤ 9223372036854775807) (hlen : hs.length ≤ 1000000) :
    Calls Tryd.prog 35 #[.string n, v] w fun e w' => ∃ I', Imm.le I I' ∧ e = .returned (.tuple #[.string (getH n hs).1, .bool (getH n hs).2]) ∧ St w0 w' I' L := by
  refine enter Tryd.func35 rfl (N := 23) rfl rfl ?_
  simp only [List.zipIdx_cons, List.zipIdx_nil, List.map_cons, List.map_nil, Nat.zero_add, Nat.reduceAdd]
  have hle := Imm.le.refl I
  refine CW.seq ?_
  -- region 0
  refine CW.region ?_
  refine RW.op1 rfl (runs_assign rfl) ?_
  refine RW.op1 rfl (runs_assign rfl) ?_
  refine RW.done ?_
  refine AQ.next ?_
  refine CW.seq ?_
  refine CW.seq ?_
  -- region 1
  refine CW.region ?_
  refine RW.op1 rfl (runs_move rfl) ?_
  refine RW.op1 rfl (RdL.len Tryd.underlying31 rfl hv) ?_
  refine RW.op1 rfl (runs_move rfl) ?_
  refine RW.done ?_
  refine AQ.next ?_
  refine CW.block ?_
  -- loop 1
  refine CW.loop (Nat × Imm) (fun x w => I.le x.2 ∧ St w0 w x.2 L ∧ x.1 ≤ hs.length ∧ ∀ r ∈ hs.take x.1, lowEq r.1 n = false) (fun x => [(0, .string n), (8, v), (9, .int .i64 (hs.length : Int)), (10, .int .i64 (x.1 : Int))]) (fun x => hs.length - x.1) ⟨(0, I), ⟨Imm.le.refl _, hst, Nat.zero_le _, by simp⟩, ⟨rfl, rfl, rfl, rfl, trivial⟩⟩ ?_
  rintro ⟨k, I5⟩ w ⟨hle, hstn, hk, hno⟩
  dsimp only at hle hstn hk hno ⊢
  clear hst
  have hst := hstn
  clear hstn
  have hv5 := RdL.mono hle hv
  refine CW.seq ?_
  -- region 2
  refine CW.region ?_
  refine RW.op1 rfl (runs_lss rfl rfl) ?_
  refine RW.done ?_
  refine AQ.next ?_
  refine CW.seq ?_
  refine CW.cond rfl (fun hc11 => ?_) (fun hc11 => ?_)
  · have hcb11 := hc11
    try simp only [decide_eq_true_eq, decide_eq_false_iff_not] at hc11
    have hk1 : k < hs.length := by omega
    obtain ⟨r, hr⟩ : ∃ r, hs[k] = r := ⟨_, rfl⟩
    have hr2 : hs[k]? = some r := by rw [List.getElem?_eq_getElem hk1, hr]
    have hrs := hok r (by rw [← hr]; exact List.getElem_mem _)
    refine CW.skip ?_
    refine AQ.next ?_
    refine CW.seq ?_
    refine CW.block ?_
    refine CW.seq ?_
    -- region 3
    refine CW.region ?_
    refine RW.op1 rfl (RdL.indexAddr Tryd.underlying31 ti30 (by decide) rfl rfl hv5 (by omega)) ?_
    refine RW.op1 rfl (RdL.loadRow (row := hrow r) ag30 ti30 rfl hv5 hst rfl (hrow_at hr2)) ?_
    refine RW.opE rfl (runs_alloc ti30 hst) ?_
    rintro _ w ⟨b1, rfl, hstn⟩
    clear hst
    have hst := hstn
    clear hstn
    first
      | refine RW.opE0 (runs_storeW ti30 rfl rfl hst (k := 0) rfl rfl rfl (NoFz.zero _) rfl) ?_
      | refine RW.opE0 (runs_storeP ti30 rfl rfl hst (k := 0) rfl rfl rfl (NoFz.zero _) rfl) ?_
      | refine RW.opE0 (runs_storeW ti30 rfl rfl hst (k := 1) rfl rfl rfl (NoFz.zero _) rfl) ?_
      | refine RW.opE0 (runs_storeP ti30 rfl rfl hst (k := 1) rfl rfl rfl (NoFz.zero _) rfl) ?_
      | refine RW.opE0 (runs_storeW ti30 rfl rfl hst (k := 2) rfl rfl rfl (NoFz.zero _) rfl) ?_
      | refine RW.opE0 (runs_storeP ti30 rfl rfl hst (k := 2) rfl rfl rfl (NoFz.zero _) rfl) ?_
    rintro w hstn
    clear hst
    have hst := hstn
    clear hstn
    try simp only [List.set_cons_zero, List.set_cons_succ] at hst
    refine RW.done ?_
    refine AQ.next ?_
    refine CW.seq ?_
    -- region 4
    refine CW.region ?_
    first
      | refine RW.op1 rfl (runs_fieldAddr0 rfl Tryd.underlying30 rfl ti9 (by decide)) ?_
      | refine RW.op1 rfl (runs_fieldAddr rfl Tryd.underlying30 rfl ti9 (by decide)) ?_
    first
      | refine RW.op1 rfl (runs_load1 sc9 rfl (hst.cell_own (k := 0) rfl rfl)) ?_
      | refine RW.op1 rfl (runs_load1 sc9 rfl (hst.cell_own (k := 1) rfl rfl)) ?_
      | refine RW.op1 rfl (runs_load1 sc9 rfl (hst.cell_own (k := 2) rfl rfl)) ?_
    refine RW.call rfl call37 rfl rfl (refLower_spec hst r.1 hrs) ?_
    rintro e w ⟨I3, hI3, rfl, hstn⟩
    clear hst
    have hst := hstn
    clear hstn
    replace hle := hle.trans hI3
    refine ⟨_, rfl, ?_⟩
    refine RW.op1 rfl (runs_move rfl) ?_
    refine RW.call rfl call37 rfl rfl (refLower_spec hst n hn) ?_
    rintro e w ⟨I4, hI4, rfl, hstn⟩
    clear hst
    have hst := hstn
    clear hstn
    replace hle := hle.trans hI4
    refine ⟨_, rfl, ?_⟩
    refine RW.op1 rfl (runs_eqS rfl rfl) ?_
    refine RW.done ?_
    refine AQ.next ?_
    refine CW.cond rfl (fun hc19 => ?_) (fun hc19 => ?_)
    · have hcb19 := hc19
      try simp only [decide_eq_true_eq, decide_eq_false_iff_not] at hc19
      simp only [strOf_toList] at hc19 hcb19
      refine CW.seq ?_
      -- region 5
      refine CW.region ?_
      first
        | refine RW.op1 rfl (runs_fieldAddr0 rfl Tryd.underlying30 rfl ti9 (by decide)) ?_
        | refine RW.op1 rfl (runs_fieldAddr rfl Tryd.underlying30 rfl ti9 (by decide)) ?_
      first
        | refine RW.op1 rfl (runs_load1 sc9 rfl (hst.cell_own (k := 0) rfl rfl)) ?_
        | refine RW.op1 rfl (runs_load1 sc9 rfl (hst.cell_own (k := 1) rfl rfl)) ?_
        | refine RW.op1 rfl (runs_load1 sc9 rfl (hst.cell_own (k := 2) rfl rfl)) ?_
      refine RW.op1 rfl (runs_assign rfl) ?_
      refine RW.op1 rfl (runs_assign rfl) ?_
      refine RW.done ?_
      refine AQ.next ?_
      refine CW.ret ?_
      refine AQ.block_ret ?_
      refine AQ.past_ret ?_
      refine AQ.past_ret ?_
      refine AQ.block_ret ?_
      refine AQ.past_ret ?_
      refine AQ.ret2 rfl rfl rfl ?_
      have hf : getH n hs = (r.2, true) := by unfold getH; rw [find_take hno hk1 (by rw [hr]; exact hcb19), hr]
      rw [hf]
      exact ⟨_, hle, rfl, hst.drop1⟩
    · have hcb19 := hc19
      try simp only [decide_eq_true_eq, decide_eq_false_iff_not] at hc19
      simp only [strOf_toList] at hc19 hcb19
      refine CW.skip ?_
      refine AQ.block_normal ?_
      refine AQ.next ?_
      -- region 6
      refine CW.region ?_
      refine RW.op1 rfl (runs_add rfl rfl (by omega)) ?_
      refine RW.op1 rfl (runs_move rfl) ?_
      refine RW.done ?_
      exact AQ.again (x := (k, I5)) (k + 1, _) ⟨hle, hst.drop1, by omega, take_more hno hk1 (by rw [hr]; exact hcb19)⟩ ⟨rfl, rfl, rfl, rfl, trivial⟩ (by dsimp only; omega)
  · have hcb11 := hc11
    try simp only [decide_eq_true_eq, decide_eq_false_iff_not] at hc11
    skip
    refine CW.exit ?_
    refine AQ.past_exit ?_
    refine AQ.past_exit ?_
    refine AQ.block_hit ?_
    refine AQ.next ?_
    refine CW.seq ?_
    -- region 7
    refine CW.region ?_
    refine RW.op1 rfl (runs_assign rfl) ?_
    refine RW.op1 rfl (runs_assign rfl) ?_
    refine RW.done ?_
    refine AQ.next ?_
    refine CW.ret ?_
    refine AQ.ret2 rfl rfl rfl ?_
    have hf : getH n hs = (⟨#[]⟩, false) := by unfold getH; rw [find_no hno (by omega)]
    rw [hf]
    exact ⟨_, hle, rfl, hst⟩
set_option maxRecDepth 100000 in
set_option maxHeartbeats 1000000 in
theorem until_spec {w0 w : World} {I : Imm} {L : Own} (hst : St w0 w I L) (s p : ByteArray) (hs : s.size ≤ 9223372036854775807) (hp : p.size ≤ 1000000) :
    Calls Tryd.prog 46 #[.string s, .string p] w fun e w' => e = .returned (.tuple #[.string (strOf (untilL p.toList s.toList).1), .string (strOf (untilL p.toList s.toList).2)]) ∧ St w0 w' I L := by
  have hsz := size_toList s
  have hpz := size_toList p
  refine enter Tryd.func46 rfl (N := 34) rfl rfl ?_
  simp only [List.zipIdx_cons, List.zipIdx_nil, List.map_cons, List.map_nil, Nat.zero_add, Nat.reduceAdd]
  have hle := Imm.le.refl I
  refine CW.seq ?_
  -- region 0
  refine CW.region ?_
  refine RW.op1 rfl (runs_assign rfl) ?_
  refine RW.op1 rfl (runs_assign rfl) ?_
  refine RW.done ?_
  refine AQ.next ?_
  refine CW.seq ?_
  refine CW.seq ?_
  -- region 1
  refine CW.region ?_
  refine RW.op1 rfl (runs_assign rfl) ?_
  refine RW.done ?_
  refine AQ.next ?_
  refine CW.block ?_
  -- loop 1
  refine CW.loop Nat (fun k w => St w0 w I L ∧ k ≤ s.toList.length ∧ ∀ x ∈ s.toList.take k, p.toList.contains x = false) (fun k => [(0, .string s), (1, .string p), (6, .int .i64 (k : Int))]) (fun k => s.toList.length - k) ⟨0, ⟨hst, Nat.zero_le _, by simp⟩, ⟨rfl, rfl, rfl, trivial⟩⟩ ?_
  rintro k w ⟨hstn, hk, hall⟩
  clear hst
  have hst := hstn
  clear hstn
  refine CW.seq ?_
  refine CW.seq ?_
  -- region 2
  refine CW.region ?_
  refine RW.op1 rfl (runs_move rfl) ?_
  refine RW.op1 rfl (runs_move rfl) ?_
  refine RW.op1 rfl (runs_lenS Tryd.underlying9 rfl) ?_
  refine RW.op1 rfl (runs_lss rfl rfl) ?_
  refine RW.done ?_
  refine AQ.next ?_
  refine CW.cond rfl (fun hc11 => ?_) (fun hc11 => ?_)
  · have hcb11 := hc11
    try simp only [decide_eq_true_eq, decide_eq_false_iff_not] at hc11
    have hk1 : k < s.toList.length := by omega
    have hgd := get_getD hk1
    obtain ⟨c, hc⟩ : ∃ c, s.toList[k] = c := ⟨_, rfl⟩
    rw [hc] at hgd
    refine CW.skip ?_
    refine AQ.next ?_
    refine CW.seq ?_
    refine CW.block ?_
    refine CW.seq ?_
    -- region 4
    refine CW.region ?_
    refine RW.op1 rfl (runs_assign rfl) ?_
    refine RW.done ?_
    refine AQ.next ?_
    refine CW.block ?_
    -- loop 2
    refine CW.loop Nat (fun j w => St w0 w I L ∧ j ≤ p.toList.length ∧ (p.toList.take j).contains c = false) (fun j => [(0, .string s), (1, .string p), (6, .int .i64 (k : Int)), (7, .int .i64 (j : Int))]) (fun j => p.toList.length - j) ⟨0, ⟨hst, Nat.zero_le _, by simp⟩, ⟨rfl, rfl, rfl, rfl, trivial⟩⟩ ?_
    rintro j w ⟨hstn, hj, hno⟩
    clear hst
    have hst := hstn
    clear hstn
    refine CW.seq ?_
    refine CW.seq ?_
    -- region 5
    refine CW.region ?_
    refine RW.op1 rfl (runs_move rfl) ?_
    refine RW.op1 rfl (runs_move rfl) ?_
    refine RW.op1 rfl (runs_lenS Tryd.underlying9 rfl) ?_
    refine RW.op1 rfl (runs_lss rfl rfl) ?_
    refine RW.done ?_
    refine AQ.next ?_
    refine CW.cond rfl (fun hc17 => ?_) (fun hc17 => ?_)
    · have hcb17 := hc17
      try simp only [decide_eq_true_eq, decide_eq_false_iff_not] at hc17
      have hj1 : j < p.toList.length := by omega
      have hgj := get_getD hj1
      obtain ⟨d, hd⟩ : ∃ d, p.toList[j] = d := ⟨_, rfl⟩
      rw [hd] at hgj
      refine CW.skip ?_
      refine AQ.next ?_
      refine CW.seq ?_
      refine CW.block ?_
      refine CW.seq ?_
      -- region 7
      refine CW.drawSt hst (.q 0 (.q 1 (.q 2 (.q 3 (.q 4 (.q 5 (.q 6 .nil))))))) follows (by kernel_rfl) (fun w hst => ?_)
      refine DRW.q rfl rfl (fun w' hF => runs_move rfl) ?_
      refine DRW.q rfl rfl (fun w' hF => runs_move rfl) ?_
      refine DRW.q rfl rfl (fun w' hF => runs_indexL Tryd.underlying9 rfl rfl (by omega) (by omega)) ?_
      rw [show ((k : Int)).toNat = k from rfl, hgd]
      refine DRW.q rfl rfl (fun w' hF => runs_move rfl) ?_
      refine DRW.q rfl rfl (fun w' hF => runs_move rfl) ?_
      refine DRW.q rfl rfl (fun w' hF => runs_indexL Tryd.underlying9 rfl rfl (by omega) (by omega)) ?_
      rw [show ((j : Int)).toNat = j from rfl, hgj]
      refine DRW.q rfl rfl (fun w' hF => runs_eqI rfl rfl) ?_
      refine DRW.done ?_
      refine AQ.next ?_
      refine CW.cond rfl (fun hc26 => ?_) (fun hc26 => ?_)
      · have hcb26 := hc26
        try simp only [decide_eq_true_eq, decide_eq_false_iff_not] at hc26
        have hcd : c = d := by
          apply UInt8.toNat.inj
          omega
        have hin : p.toList.contains c = true := by
          rw [List.contains_iff_mem, hcd, ← hd]
          exact List.getElem_mem hj1
        have hun := untilL_get hk1 hall (by rw [hc]; exact hin)
        refine CW.seq ?_
        -- region 8
        refine CW.drawSt hst (.q 0 (.q 1 (.q 2 (.q 3 (.q 4 (.q 5 (.q 6 (.q 7 .nil)))))))) follows (by kernel_rfl) (fun w hst => ?_)
        refine DRW.q rfl rfl (fun w' hF => runs_move rfl) ?_
        refine DRW.q rfl rfl (fun w' hF => runs_move rfl) ?_
        refine DRW.q rfl rfl (fun w' hF => runs_sliceS_h Tryd.underlying9 rfl rfl (by omega)) ?_
        refine DRW.q rfl rfl (fun w' hF => runs_move rfl) ?_
        refine DRW.q rfl rfl (fun w' hF => runs_move rfl) ?_
        refine DRW.q rfl rfl (fun w' hF => runs_sliceS_l Tryd.underlying9 rfl rfl (by omega)) ?_
        refine DRW.q rfl rfl (fun w' hF => runs_assign rfl) ?_
        refine DRW.q rfl rfl (fun w' hF => runs_assign rfl) ?_
        refine DRW.done ?_
        refine AQ.next ?_
        refine CW.ret ?_
        refine AQ.block_ret ?_
        refine AQ.past_ret ?_
        refine AQ.past_ret ?_
        refine AQ.block_ret ?_
        refine AQ.block_ret ?_
        refine AQ.past_ret ?_
        refine AQ.past_ret ?_
        refine AQ.block_ret ?_
        refine AQ.past_ret ?_
        refine AQ.ret2 rfl rfl rfl ?_
        refine ⟨?_, hst⟩
        rw [hun, extractE, extractE, show ((k : Int)).toNat = k from rfl, List.drop_zero, Nat.sub_zero, List.take_of_length_le (l := List.drop k s.toList) (by rw [List.length_drop]; omega)]
      · have hcb26 := hc26
        try simp only [decide_eq_true_eq, decide_eq_false_iff_not] at hc26
        have hcd : c ≠ d := fun e => hc26 (by rw [e])
        refine CW.skip ?_
        refine AQ.block_normal ?_
        refine AQ.next ?_
        -- region 6
        refine CW.region ?_
        refine RW.op1 rfl (runs_move rfl) ?_
        refine RW.op1 rfl (runs_add rfl rfl (by omega)) ?_
        refine RW.op1 rfl (runs_assign rfl) ?_
        refine RW.done ?_
        exact AQ.again (x := j) (j + 1) ⟨hst, by omega, by
          rw [List.take_add_one, List.getElem?_eq_getElem hj1, hd]
          rw [List.contains_eq_mem] at hno ⊢
          simp only [Option.toList_some, List.mem_append, List.mem_singleton, decide_eq_false_iff_not] at hno ⊢
          rintro (h | h)
          · exact hno h
          · exact hcd h⟩ ⟨rfl, rfl, rfl, rfl, trivial⟩ (by omega)
    · have hcb17 := hc17
      try simp only [decide_eq_true_eq, decide_eq_false_iff_not] at hc17
      skip
      refine CW.exit ?_
      refine AQ.past_exit ?_
      refine AQ.past_exit ?_
      refine AQ.block_hit ?_
      refine AQ.block_normal ?_
      refine AQ.next ?_
      -- region 3
      refine CW.region ?_
      refine RW.op1 rfl (runs_move rfl) ?_
      refine RW.op1 rfl (runs_add rfl rfl (by omega)) ?_
      refine RW.op1 rfl (runs_assign rfl) ?_
      refine RW.done ?_
      exact AQ.again (x := k) (k + 1) ⟨hst, by omega, takeE_more hall hk1 (by rw [hc]; rw [List.take_of_length_le (by omega)] at hno; exact hno)⟩ ⟨rfl, rfl, rfl, trivial⟩ (by omega)
  · have hcb11 := hc11
    try simp only [decide_eq_true_eq, decide_eq_false_iff_not] at hc11
    skip
    refine CW.exit ?_
    refine AQ.past_exit ?_
    refine AQ.past_exit ?_
    refine AQ.block_hit ?_
    refine AQ.next ?_
    refine CW.seq ?_
    -- region 9
    refine CW.region ?_
    refine RW.op1 rfl (runs_move rfl) ?_
    refine RW.op1 rfl (runs_assign rfl) ?_
    refine RW.op1 rfl (runs_assign rfl) ?_
    refine RW.done ?_
    refine AQ.next ?_
    refine CW.ret ?_
    refine AQ.ret2 rfl rfl rfl ?_
    rw [List.take_of_length_le (by omega)] at hall
    rw [untilL_no hall, strOfE]
    exact ⟨rfl, hst⟩
theorem goL_1 {l : List UInt8} (h : ¬ ((l.length : Nat) : Int) > 0) : false = goL l := by
  unfold goL
  rw [decide_eq_false (show ¬ 0 < l.length by omega), Bool.false_and]
theorem goR_1 {l : List UInt8} (h : ¬ ((l.length : Nat) : Int) > 0) : false = goR l := by
  unfold goR
  rw [decide_eq_false (show ¬ 0 < l.length by omega), Bool.false_and]
theorem goL_2 {l : List UInt8} (h : ((l.length : Nat) : Int) > 0) : decide (((l.getD ((0 : Int)).toNat 0).toNat : Int) ≤ 32) = goL l := by
  unfold goL
  rw [decide_eq_true (show 0 < l.length by omega), Bool.true_and]
  exact decide_eq_decide.2 ⟨fun h => Int.ofNat_le.1 h, fun h => Int.ofNat_le.2 h⟩
theorem goR_2 {l : List UInt8} {n : Nat} (hn : l.length = n) (h : ((l.length : Nat) : Int) > 0) : decide (((l.getD (((n : Nat) : Int) - 1).toNat 0).toNat : Int) ≤ 32) = goR l := by
  subst hn
  unfold goR
  rw [decide_eq_true (show 0 < l.length by omega), Bool.true_and, show (((l.length : Nat) : Int) - 1).toNat = l.length - 1 by omega]
  exact decide_eq_decide.2 ⟨fun h => Int.ofNat_le.1 h, fun h => Int.ofNat_le.2 h⟩
theorem goL_pos {l : List UInt8} (h : goL l = true) : 0 < l.length := by unfold goL at h; simp at h; omega
theorem goR_pos {l : List UInt8} (h : goR l = true) : 0 < l.length := by unfold goR at h; simp at h; omega
set_option maxRecDepth 100000 in
set_option maxHeartbeats 1000000 in
theorem trim_spec {w0 w : World} {I : Imm} {L : Own} (hst : St w0 w I L) (s : ByteArray) (hs : s.size ≤ 9223372036854775807) :
    Calls Tryd.prog 24 #[.string s] w fun e w' => e = .returned (.string (strOf (trimB s.toList))) ∧ St w0 w' I L := by
  refine enter Tryd.func24 rfl (N := 30) rfl rfl ?_
  simp only [List.zipIdx_cons, List.zipIdx_nil, List.map_cons, List.map_nil, Nat.zero_add, Nat.reduceAdd]
  have hle := Imm.le.refl I
  refine CW.seq ?_
  -- region 0
  refine CW.region ?_
  refine RW.op1 rfl (runs_assign rfl) ?_
  refine RW.done ?_
  refine AQ.next ?_
  refine CW.seq ?_
  refine CW.block ?_
  -- loop 1
  refine CW.loop ByteArray (fun t w => St w0 w I L ∧ trimL t.toList = trimL s.toList ∧ t.size ≤ s.size) (fun t => [(0, .string t)]) (fun t => t.size) ⟨s, ⟨hst, rfl, Nat.le_refl _⟩, ⟨rfl, trivial⟩⟩ ?_
  rintro t w ⟨hstn, htl, hts⟩
  clear hst
  have hst := hstn
  clear hstn
  have htz := size_toList t
  refine CW.seq ?_
  refine CW.seq ?_
  -- region 1
  refine CW.cut Unit (fun _ w => St w0 w I L) (fun _ => [(0, .string t), (10, .bool (goL t.toList))]) ?_ ?_
  · -- region 1
    refine CW.region ?_
    refine RW.op1 rfl (runs_move rfl) ?_
    refine RW.op1 rfl (runs_lenS Tryd.underlying9 rfl) ?_
    refine RW.op1 rfl (runs_gtr rfl rfl) ?_
    refine RW.op1 rfl (runs_move rfl) ?_
    refine RW.split (t := 6) rfl (fun hb6 => ?_) (fun hb6 => ?_)
    · have hb6p := hb6
      try simp only [decide_eq_true_eq, decide_eq_false_iff_not] at hb6p
      refine RW.on_guard rfl rfl rfl rfl hb6 ?_
      refine RW.op1 rfl (runs_move rfl) ?_
      refine RW.on_guard rfl rfl rfl rfl hb6 ?_
      refine RW.op1 rfl (runs_indexL Tryd.underlying9 rfl rfl (by omega) (by omega)) ?_
      refine RW.on_guard rfl rfl rfl rfl hb6 ?_
      refine RW.op1 rfl (runs_leq rfl rfl) ?_
      refine RW.op1 rfl (runs_pick_true rfl hb6 rfl) ?_
      refine RW.done ?_
      first
        | exact AQ.meet () hst ⟨rfl, congrArg (fun z => some (Value.bool z)) (goL_1 (by omega)), trivial⟩
        | exact AQ.meet () hst ⟨rfl, congrArg (fun z => some (Value.bool z)) (goL_2 (by omega)), trivial⟩
    · have hb6p := hb6
      try simp only [decide_eq_true_eq, decide_eq_false_iff_not] at hb6p
      refine RW.off_guard rfl rfl rfl rfl hb6 ?_
      refine RW.off_guard rfl rfl rfl rfl hb6 ?_
      refine RW.off_guard rfl rfl rfl rfl hb6 ?_
      refine RW.op1 rfl (runs_pick_false rfl hb6 rfl) ?_
      refine RW.done ?_
      first
        | exact AQ.meet () hst ⟨rfl, congrArg (fun z => some (Value.bool z)) (goL_1 (by omega)), trivial⟩
        | exact AQ.meet () hst ⟨rfl, congrArg (fun z => some (Value.bool z)) (goL_2 (by omega)), trivial⟩
  · rintro _ w hstn
    clear hst
    have hst := hstn
    clear hstn
    refine AQ.next ?_
    refine CW.cond rfl (fun hc10 => ?_) (fun hc10 => ?_)
    · have hcb10 := hc10
      try simp only [decide_eq_true_eq, decide_eq_false_iff_not] at hc10
      have hpos := goL_pos hcb10
      rw [htz] at hpos
      refine CW.skip ?_
      refine AQ.next ?_
      refine CW.block ?_
      -- region 2
      refine CW.region ?_
      refine RW.op1 rfl (runs_move rfl) ?_
      refine RW.op1 rfl (runs_sliceS_l Tryd.underlying9 rfl rfl (by omega)) ?_
      refine RW.op1 rfl (runs_assign rfl) ?_
      refine RW.done ?_
      refine AQ.block_normal ?_
      have he : (t.extract ((1 : Int)).toNat t.size).toList = t.toList.drop 1 := by
        rw [extract_list]
        exact List.take_of_length_le (by rw [List.length_drop, htz]; exact Nat.le_refl _)
      have hz := size_toList (t.extract ((1 : Int)).toNat t.size)
      rw [he, List.length_drop] at hz
      exact AQ.again (x := t) _ ⟨hst, by rw [he, trimL_go hcb10, htl], by omega⟩ ⟨rfl, trivial⟩ (by omega)
    · have hcb10 := hc10
      try simp only [decide_eq_true_eq, decide_eq_false_iff_not] at hc10
      skip
      refine CW.exit ?_
      refine AQ.past_exit ?_
      refine AQ.past_exit ?_
      refine AQ.block_hit ?_
      refine AQ.next ?_
      refine CW.seq ?_
      refine CW.block ?_
      -- loop 2
      have hb2 := trimB_of hcb10 htl (by rw [htz, size_toList]; exact hts)
      have hts0 := hts
      refine CW.loop ByteArray (fun u w => St w0 w I L ∧ trimR u.toList.length u.toList = trimB s.toList ∧ u.size ≤ s.size) (fun u => [(0, .string u)]) (fun u => u.size) ⟨t, ⟨hst, hb2, hts⟩, ⟨rfl, trivial⟩⟩ ?_
      clear hb2 hts
      rintro u w ⟨hstn, hul, hus⟩
      clear hst
      have hst := hstn
      clear hstn
      have huz := size_toList u
      refine CW.seq ?_
      refine CW.seq ?_
      -- region 3
      refine CW.cut Unit (fun _ w => St w0 w I L) (fun _ => [(0, .string u), (23, .bool (goR u.toList))]) ?_ ?_
      · -- region 3
        refine CW.region ?_
        refine RW.op1 rfl (runs_move rfl) ?_
        refine RW.op1 rfl (runs_lenS Tryd.underlying9 rfl) ?_
        refine RW.op1 rfl (runs_gtr rfl rfl) ?_
        refine RW.op1 rfl (runs_move rfl) ?_
        refine RW.split (t := 16) rfl (fun hb16 => ?_) (fun hb16 => ?_)
        · have hb16p := hb16
          try simp only [decide_eq_true_eq, decide_eq_false_iff_not] at hb16p
          refine RW.on_guard rfl rfl rfl rfl hb16 ?_
          refine RW.op1 rfl (runs_move rfl) ?_
          refine RW.on_guard rfl rfl rfl rfl hb16 ?_
          refine RW.op1 rfl (runs_move rfl) ?_
          refine RW.on_guard rfl rfl rfl rfl hb16 ?_
          refine RW.op1 rfl (runs_lenS Tryd.underlying9 rfl) ?_
          refine RW.on_guard rfl rfl rfl rfl hb16 ?_
          refine RW.op1 rfl (runs_sub rfl rfl (by omega)) ?_
          refine RW.on_guard rfl rfl rfl rfl hb16 ?_
          refine RW.op1 rfl (runs_indexL Tryd.underlying9 rfl rfl (by omega) (by omega)) ?_
          refine RW.on_guard rfl rfl rfl rfl hb16 ?_
          refine RW.op1 rfl (runs_leq rfl rfl) ?_
          refine RW.op1 rfl (runs_pick_true rfl hb16 rfl) ?_
          refine RW.done ?_
          first
            | exact AQ.meet () hst ⟨rfl, congrArg (fun z => some (Value.bool z)) (goR_1 (by omega)), trivial⟩
            | exact AQ.meet () hst ⟨rfl, congrArg (fun z => some (Value.bool z)) (goR_2 huz (by omega)), trivial⟩
        · have hb16p := hb16
          try simp only [decide_eq_true_eq, decide_eq_false_iff_not] at hb16p
          refine RW.off_guard rfl rfl rfl rfl hb16 ?_
          refine RW.off_guard rfl rfl rfl rfl hb16 ?_
          refine RW.off_guard rfl rfl rfl rfl hb16 ?_
          refine RW.off_guard rfl rfl rfl rfl hb16 ?_
          refine RW.off_guard rfl rfl rfl rfl hb16 ?_
          refine RW.off_guard rfl rfl rfl rfl hb16 ?_
          refine RW.op1 rfl (runs_pick_false rfl hb16 rfl) ?_
          refine RW.done ?_
          first
            | exact AQ.meet () hst ⟨rfl, congrArg (fun z => some (Value.bool z)) (goR_1 (by omega)), trivial⟩
            | exact AQ.meet () hst ⟨rfl, congrArg (fun z => some (Value.bool z)) (goR_2 huz (by omega)), trivial⟩
      · rintro _ w hstn
        clear hst
        have hst := hstn
        clear hstn
        refine AQ.next ?_
        refine CW.cond rfl (fun hc23 => ?_) (fun hc23 => ?_)
        · have hcb23 := hc23
          try simp only [decide_eq_true_eq, decide_eq_false_iff_not] at hc23
          have hpos := goR_pos hcb23
          rw [huz] at hpos
          refine CW.skip ?_
          refine AQ.next ?_
          refine CW.block ?_
          -- region 4
          refine CW.region ?_
          refine RW.op1 rfl (runs_move rfl) ?_
          refine RW.op1 rfl (runs_move rfl) ?_
          refine RW.op1 rfl (runs_lenS Tryd.underlying9 rfl) ?_
          refine RW.op1 rfl (runs_sub rfl rfl (by omega)) ?_
          refine RW.op1 rfl (runs_sliceS_h Tryd.underlying9 rfl rfl (by omega)) ?_
          refine RW.op1 rfl (runs_assign rfl) ?_
          refine RW.done ?_
          refine AQ.block_normal ?_
          have he : (u.extract 0 (((u.size : Nat) : Int) - 1).toNat).toList = u.toList.take (u.toList.length - 1) := by
            rw [extract_list, List.drop_zero, huz]
            congr 1
            omega
          have hz := size_toList (u.extract 0 (((u.size : Nat) : Int) - 1).toNat)
          rw [he, List.length_take] at hz
          exact AQ.again (x := u) _ ⟨hst, by rw [he, trimR_go hcb23, hul], by omega⟩ ⟨rfl, trivial⟩ (by omega)
        · have hcb23 := hc23
          try simp only [decide_eq_true_eq, decide_eq_false_iff_not] at hc23
          rw [trimR_stop hcb23] at hul
          refine CW.exit ?_
          refine AQ.past_exit ?_
          refine AQ.past_exit ?_
          refine AQ.block_hit ?_
          refine AQ.next ?_
          refine CW.seq ?_
          -- region 5
          refine CW.region ?_
          refine RW.op1 rfl (runs_move rfl) ?_
          refine RW.op1 rfl (runs_assign rfl) ?_
          refine RW.done ?_
          refine AQ.next ?_
          refine CW.ret ?_
          refine AQ.ret1 rfl rfl ?_
          exact ⟨by rw [← hul, strOf_of], hst⟩
set_option maxRecDepth 100000 in
set_option maxHeartbeats 1000000 in
theorem rtrim_spec {w0 w : World} {I : Imm} {L : Own} (hst : St w0 w I L) (s : ByteArray) (hs : s.size ≤ 9223372036854775807) :
    Calls Tryd.prog 47 #[.string s] w fun e w' => e = .returned (.string (strOf (trimB s.toList))) ∧ St w0 w' I L := by
  refine enter Tryd.func47 rfl (N := 30) rfl rfl ?_
  simp only [List.zipIdx_cons, List.zipIdx_nil, List.map_cons, List.map_nil, Nat.zero_add, Nat.reduceAdd]
  have hle := Imm.le.refl I
  refine CW.seq ?_
  -- region 0
  refine CW.region ?_
  refine RW.op1 rfl (runs_assign rfl) ?_
  refine RW.done ?_
  refine AQ.next ?_
  refine CW.seq ?_
  refine CW.block ?_
  -- loop 1
  refine CW.loop ByteArray (fun t w => St w0 w I L ∧ trimL t.toList = trimL s.toList ∧ t.size ≤ s.size) (fun t => [(0, .string t)]) (fun t => t.size) ⟨s, ⟨hst, rfl, Nat.le_refl _⟩, ⟨rfl, trivial⟩⟩ ?_
  rintro t w ⟨hstn, htl, hts⟩
  clear hst
  have hst := hstn
  clear hstn
  have htz := size_toList t
  refine CW.seq ?_
  refine CW.seq ?_
  -- region 1
  refine CW.cut Unit (fun _ w => St w0 w I L) (fun _ => [(0, .string t), (10, .bool (goL t.toList))]) ?_ ?_
  · -- region 1
    refine CW.region ?_
    refine RW.op1 rfl (runs_move rfl) ?_
    refine RW.op1 rfl (runs_lenS Tryd.underlying9 rfl) ?_
    refine RW.op1 rfl (runs_gtr rfl rfl) ?_
    refine RW.op1 rfl (runs_move rfl) ?_
    refine RW.split (t := 6) rfl (fun hb6 => ?_) (fun hb6 => ?_)
    · have hb6p := hb6
      try simp only [decide_eq_true_eq, decide_eq_false_iff_not] at hb6p
      refine RW.on_guard rfl rfl rfl rfl hb6 ?_
      refine RW.op1 rfl (runs_move rfl) ?_
      refine RW.on_guard rfl rfl rfl rfl hb6 ?_
      refine RW.op1 rfl (runs_indexL Tryd.underlying9 rfl rfl (by omega) (by omega)) ?_
      refine RW.on_guard rfl rfl rfl rfl hb6 ?_
      refine RW.op1 rfl (runs_leq rfl rfl) ?_
      refine RW.op1 rfl (runs_pick_true rfl hb6 rfl) ?_
      refine RW.done ?_
      first
        | exact AQ.meet () hst ⟨rfl, congrArg (fun z => some (Value.bool z)) (goL_1 (by omega)), trivial⟩
        | exact AQ.meet () hst ⟨rfl, congrArg (fun z => some (Value.bool z)) (goL_2 (by omega)), trivial⟩
    · have hb6p := hb6
      try simp only [decide_eq_true_eq, decide_eq_false_iff_not] at hb6p
      refine RW.off_guard rfl rfl rfl rfl hb6 ?_
      refine RW.off_guard rfl rfl rfl rfl hb6 ?_
      refine RW.off_guard rfl rfl rfl rfl hb6 ?_
      refine RW.op1 rfl (runs_pick_false rfl hb6 rfl) ?_
      refine RW.done ?_
      first
        | exact AQ.meet () hst ⟨rfl, congrArg (fun z => some (Value.bool z)) (goL_1 (by omega)), trivial⟩
        | exact AQ.meet () hst ⟨rfl, congrArg (fun z => some (Value.bool z)) (goL_2 (by omega)), trivial⟩
  · rintro _ w hstn
    clear hst
    have hst := hstn
    clear hstn
    refine AQ.next ?_
    refine CW.cond rfl (fun hc10 => ?_) (fun hc10 => ?_)
    · have hcb10 := hc10
      try simp only [decide_eq_true_eq, decide_eq_false_iff_not] at hc10
      have hpos := goL_pos hcb10
      rw [htz] at hpos
      refine CW.skip ?_
      refine AQ.next ?_
      refine CW.block ?_
      -- region 2
      refine CW.region ?_
      refine RW.op1 rfl (runs_move rfl) ?_
      refine RW.op1 rfl (runs_sliceS_l Tryd.underlying9 rfl rfl (by omega)) ?_
      refine RW.op1 rfl (runs_assign rfl) ?_
      refine RW.done ?_
      refine AQ.block_normal ?_
      have he : (t.extract ((1 : Int)).toNat t.size).toList = t.toList.drop 1 := by
        rw [extract_list]
        exact List.take_of_length_le (by rw [List.length_drop, htz]; exact Nat.le_refl _)
      have hz := size_toList (t.extract ((1 : Int)).toNat t.size)
      rw [he, List.length_drop] at hz
      exact AQ.again (x := t) _ ⟨hst, by rw [he, trimL_go hcb10, htl], by omega⟩ ⟨rfl, trivial⟩ (by omega)
    · have hcb10 := hc10
      try simp only [decide_eq_true_eq, decide_eq_false_iff_not] at hc10
      skip
      refine CW.exit ?_
      refine AQ.past_exit ?_
      refine AQ.past_exit ?_
      refine AQ.block_hit ?_
      refine AQ.next ?_
      refine CW.seq ?_
      refine CW.block ?_
      -- loop 2
      have hb2 := trimB_of hcb10 htl (by rw [htz, size_toList]; exact hts)
      have hts0 := hts
      refine CW.loop ByteArray (fun u w => St w0 w I L ∧ trimR u.toList.length u.toList = trimB s.toList ∧ u.size ≤ s.size) (fun u => [(0, .string u)]) (fun u => u.size) ⟨t, ⟨hst, hb2, hts⟩, ⟨rfl, trivial⟩⟩ ?_
      clear hb2 hts
      rintro u w ⟨hstn, hul, hus⟩
      clear hst
      have hst := hstn
      clear hstn
      have huz := size_toList u
      refine CW.seq ?_
      refine CW.seq ?_
      -- region 3
      refine CW.cut Unit (fun _ w => St w0 w I L) (fun _ => [(0, .string u), (23, .bool (goR u.toList))]) ?_ ?_
      · -- region 3
        refine CW.region ?_
        refine RW.op1 rfl (runs_move rfl) ?_
        refine RW.op1 rfl (runs_lenS Tryd.underlying9 rfl) ?_
        refine RW.op1 rfl (runs_gtr rfl rfl) ?_
        refine RW.op1 rfl (runs_move rfl) ?_
        refine RW.split (t := 16) rfl (fun hb16 => ?_) (fun hb16 => ?_)
        · have hb16p := hb16
          try simp only [decide_eq_true_eq, decide_eq_false_iff_not] at hb16p
          refine RW.on_guard rfl rfl rfl rfl hb16 ?_
          refine RW.op1 rfl (runs_move rfl) ?_
          refine RW.on_guard rfl rfl rfl rfl hb16 ?_
          refine RW.op1 rfl (runs_move rfl) ?_
          refine RW.on_guard rfl rfl rfl rfl hb16 ?_
          refine RW.op1 rfl (runs_lenS Tryd.underlying9 rfl) ?_
          refine RW.on_guard rfl rfl rfl rfl hb16 ?_
          refine RW.op1 rfl (runs_sub rfl rfl (by omega)) ?_
          refine RW.on_guard rfl rfl rfl rfl hb16 ?_
          refine RW.op1 rfl (runs_indexL Tryd.underlying9 rfl rfl (by omega) (by omega)) ?_
          refine RW.on_guard rfl rfl rfl rfl hb16 ?_
          refine RW.op1 rfl (runs_leq rfl rfl) ?_
          refine RW.op1 rfl (runs_pick_true rfl hb16 rfl) ?_
          refine RW.done ?_
          first
            | exact AQ.meet () hst ⟨rfl, congrArg (fun z => some (Value.bool z)) (goR_1 (by omega)), trivial⟩
            | exact AQ.meet () hst ⟨rfl, congrArg (fun z => some (Value.bool z)) (goR_2 huz (by omega)), trivial⟩
        · have hb16p := hb16
          try simp only [decide_eq_true_eq, decide_eq_false_iff_not] at hb16p
          refine RW.off_guard rfl rfl rfl rfl hb16 ?_
          refine RW.off_guard rfl rfl rfl rfl hb16 ?_
          refine RW.off_guard rfl rfl rfl rfl hb16 ?_
          refine RW.off_guard rfl rfl rfl rfl hb16 ?_
          refine RW.off_guard rfl rfl rfl rfl hb16 ?_
          refine RW.off_guard rfl rfl rfl rfl hb16 ?_
          refine RW.op1 rfl (runs_pick_false rfl hb16 rfl) ?_
          refine RW.done ?_
          first
            | exact AQ.meet () hst ⟨rfl, congrArg (fun z => some (Value.bool z)) (goR_1 (by omega)), trivial⟩
            | exact AQ.meet () hst ⟨rfl, congrArg (fun z => some (Value.bool z)) (goR_2 huz (by omega)), trivial⟩
      · rintro _ w hstn
        clear hst
        have hst := hstn
        clear hstn
        refine AQ.next ?_
        refine CW.cond rfl (fun hc23 => ?_) (fun hc23 => ?_)
        · have hcb23 := hc23
          try simp only [decide_eq_true_eq, decide_eq_false_iff_not] at hc23
          have hpos := goR_pos hcb23
          rw [huz] at hpos
          refine CW.skip ?_
          refine AQ.next ?_
          refine CW.block ?_
          -- region 4
          refine CW.region ?_
          refine RW.op1 rfl (runs_move rfl) ?_
          refine RW.op1 rfl (runs_move rfl) ?_
          refine RW.op1 rfl (runs_lenS Tryd.underlying9 rfl) ?_
          refine RW.op1 rfl (runs_sub rfl rfl (by omega)) ?_
          refine RW.op1 rfl (runs_sliceS_h Tryd.underlying9 rfl rfl (by omega)) ?_
          refine RW.op1 rfl (runs_assign rfl) ?_
          refine RW.done ?_
          refine AQ.block_normal ?_
          have he : (u.extract 0 (((u.size : Nat) : Int) - 1).toNat).toList = u.toList.take (u.toList.length - 1) := by
            rw [extract_list, List.drop_zero, huz]
            congr 1
            omega
          have hz := size_toList (u.extract 0 (((u.size : Nat) : Int) - 1).toNat)
          rw [he, List.length_take] at hz
          exact AQ.again (x := u) _ ⟨hst, by rw [he, trimR_go hcb23, hul], by omega⟩ ⟨rfl, trivial⟩ (by omega)
        · have hcb23 := hc23
          try simp only [decide_eq_true_eq, decide_eq_false_iff_not] at hc23
          rw [trimR_stop hcb23] at hul
          refine CW.exit ?_
          refine AQ.past_exit ?_
          refine AQ.past_exit ?_
          refine AQ.block_hit ?_
          refine AQ.next ?_
          refine CW.seq ?_
          -- region 5
          refine CW.region ?_
          refine RW.op1 rfl (runs_move rfl) ?_
          refine RW.op1 rfl (runs_assign rfl) ?_
          refine RW.done ?_
          refine AQ.next ?_
          refine CW.ret ?_
          refine AQ.ret1 rfl rfl ?_
          exact ⟨by rw [← hul, strOf_of], hst⟩
theorem St.drawnN {w0 w : World} {I : Imm} {L : Own} (h : St w0 w I L) (k : Nat) : St w0 (w.drewN k) I L := ⟨h.os, h.tape, h.out, h.imm, h.own, h.sep, h.nd⟩
theorem litL (l : List UInt8) : (ByteArray.mk l.toArray).toList = l := by rw [ByteArray.toList_eq]
theorem eqT {lo l : List UInt8} : ((strOf lo).toList == (ByteArray.mk l.toArray).toList) = true ↔ lo = l := by rw [strOf_toList, litL, beq_iff_eq]
theorem eqF {lo l : List UInt8} : ((strOf lo).toList == (ByteArray.mk l.toArray).toList) = false ↔ lo ≠ l := by rw [strOf_toList, litL, beq_eq_false_iff_ne]
theorem eqB {lo l : List UInt8} : ((strOf lo).toList == (ByteArray.mk l.toArray).toList) = (lo == l) := by rw [strOf_toList, litL]
theorem cut59_spec {w0 w : World} {I : Imm} {L : Own} (hst : St w0 w I L) (hM : MaxK I) (s : ByteArray) (hs : s.size < 4294967281) :
    Calls Tryd.prog 52 #[.string s, .string ⟨#[59]⟩] w fun e w' => e = .returned (.tuple #[.string (strOf (untilL [59] s.toList).1), .string (strOf (Lib.cut s.toList [59]).2.1), .bool (Lib.cut s.toList [59]).2.2]) ∧ St w0 w' I L := by
  obtain ⟨m, hm⟩ := hM
  refine (Tryd.strings_Cut s ⟨#[59]⟩ m w hs (hst.cell_imm hm)).mono ?_
  rintro e w' ⟨rfl, n, rfl⟩
  refine ⟨?_, hst.drawnN n⟩
  rw [← cut_until, ByteArray.toList_eq]
  rfl
theorem untilL_fst_len (c : UInt8) (l : List UInt8) : (untilL [c] l).1.length ≤ l.length := (untilL_len [c] l).1
theorem trimB_len (l : List UInt8) : (trimB l).length ≤ l.length := by
  have hR : ∀ (n : Nat) (l : List UInt8), (trimR n l).length ≤ l.length := by
    intro n
    induction n with
    | zero => intro l; exact Nat.le_refl _
    | succ n ih =>
      intro l
      unfold trimR
      split
      · have := ih (l.take (l.length - 1))
        rw [List.length_take] at this
        omega
      · exact Nat.le_refl _
  unfold trimB
  have h1 := hR l.length (trimL l)
  have h2 := (List.dropWhile_sublist (fun c : UInt8 => decide (c.toNat ≤ 32)) (l := l)).length_le
  unfold trimL at h1 ⊢
  omega
theorem lower_len (l : List UInt8) : (lower l).length = l.length := by
  unfold lower
  simp
set_option maxRecDepth 100000 in
set_option maxHeartbeats 1000000 in
theorem simple_spec {w0 w : World} {I : Imm} {L : Own} (hst : St w0 w I L) (hM : MaxK I) (n v : ByteArray) (hn : n.size ≤ 4294967280) (hv : v.size ≤ 4294967280) :
    Calls Tryd.prog 42 #[.agg #[.string n, .string v]] w fun e w' => ∃ I', Imm.le I I' ∧ e = .returned (.bool (simpleL n.toList v.toList)) ∧ St w0 w' I' L := by
  have hnz := size_toList n
  have hvz := size_toList v
  have hul := untilL_fst_len 59 v.toList
  refine enter Tryd.func42 rfl (N := 25) rfl rfl ?_
  simp only [List.zipIdx_cons, List.zipIdx_nil, List.map_cons, List.map_nil, Nat.zero_add, Nat.reduceAdd]
  have hle := Imm.le.refl I
  refine CW.seq ?_
  -- region 0
  refine CW.region ?_
  refine RW.opE rfl (runs_box rfl hst) ?_
  rintro _ w ⟨b1, rfl, hstn⟩
  clear hst
  have hst := hstn
  clear hstn
  refine RW.op1 rfl (runs_assign rfl) ?_
  refine RW.done ?_
  refine AQ.next ?_
  refine CW.seq ?_
  refine CW.seq ?_
  -- region 1
  refine CW.region ?_
  first
    | refine RW.op1 rfl (runs_fieldAddr0 rfl Tryd.underlying30 rfl ti9 (by decide)) ?_
    | refine RW.op1 rfl (runs_fieldAddr rfl Tryd.underlying30 rfl ti9 (by decide)) ?_
  first
    | refine RW.op1 rfl (runs_load1 sc9 rfl (hst.cell_own (k := 0) rfl rfl)) ?_
    | refine RW.op1 rfl (runs_load1 sc9 rfl (hst.cell_own (k := 1) rfl rfl)) ?_
    | refine RW.op1 rfl (runs_load1 sc9 rfl (hst.cell_own (k := 2) rfl rfl)) ?_
  refine RW.call rfl call23 rfl rfl (lower_spec hst n (by omega)) ?_
  rintro e w ⟨I1, hI1, rfl, hstn⟩
  clear hst
  have hst := hstn
  clear hstn
  obtain ⟨lo, hlo⟩ : ∃ l, lower n.toList = l := ⟨_, rfl⟩
  rw [hlo]
  replace hM := hM.mono hI1
  replace hle := hle.trans hI1
  refine ⟨_, rfl, ?_⟩
  refine RW.done ?_
  refine AQ.next ?_
  refine CW.block ?_
  refine CW.seq ?_
  refine CW.seq ?_
  -- region 2
  refine CW.region ?_
  refine RW.op1 rfl (runs_eqS rfl rfl) ?_
  refine RW.op1 rfl (runs_assign rfl) ?_
  refine RW.done ?_
  refine AQ.next ?_
  refine CW.cut Unit (fun _ w => St w0 w I1 ((b1, Obj.cells (Value.agg #[.string n, .string v]).cells 30) :: L)) (fun _ => [(1, .pointer (some ⟨b1, 0, none⟩)), (8, .string (strOf lo)), (9, .bool (decide (lo = acceptL ∨ lo = langL)))]) ?_ ?_
  · refine CW.cond rfl (fun hc9 => ?_) (fun hc9 => ?_)
    · have hcb9 := hc9
      try simp only [decide_eq_true_eq, decide_eq_false_iff_not] at hc9
      refine CW.skip ?_
      exact AQ.meet () hst ⟨rfl, rfl, boolN (by simp_all [strOf_toList, litL, acceptL, langL]), trivial⟩
    · have hcb9 := hc9
      try simp only [decide_eq_true_eq, decide_eq_false_iff_not] at hc9
      -- region 3
      refine CW.region ?_
      refine RW.op1 rfl (runs_eqS rfl rfl) ?_
      refine RW.op1 rfl (runs_assign rfl) ?_
      refine RW.done ?_
      exact AQ.meet () hst ⟨rfl, rfl, boolN (by simp_all [strOf_toList, litL, acceptL, langL]), trivial⟩
  · rintro _ w hstn
    clear hst
    have hst := hstn
    clear hstn
    refine AQ.next ?_
    refine CW.cond rfl (fun hc9 => ?_) (fun hc9 => ?_)
    · have hcb9 := hc9
      try simp only [decide_eq_true_eq, decide_eq_false_iff_not] at hc9
      have h9 : lo = acceptL ∨ lo = langL := of_decide_eq_true hcb9
      refine CW.seq ?_
      -- region 4
      refine CW.region ?_
      refine RW.op1 rfl (runs_assign rfl) ?_
      refine RW.done ?_
      refine AQ.next ?_
      refine CW.ret ?_
      refine AQ.block_ret ?_
      refine AQ.past_ret ?_
      refine AQ.ret1 rfl rfl ?_
      refine ⟨_, hle, ?_, hst.drop1⟩
      unfold simpleL
      rw [hlo]
      rcases h9 with h | h <;> simp [h]
    · have hcb9 := hc9
      try simp only [decide_eq_true_eq, decide_eq_false_iff_not] at hc9
      have h9 : ¬ (lo = acceptL ∨ lo = langL) := of_decide_eq_false hcb9
      rw [not_or] at h9
      refine CW.seq ?_
      -- region 5
      refine CW.region ?_
      refine RW.op1 rfl (runs_eqS rfl rfl) ?_
      refine RW.op1 rfl (runs_assign rfl) ?_
      refine RW.done ?_
      refine AQ.next ?_
      refine CW.cond rfl (fun hc12 => ?_) (fun hc12 => ?_)
      · have hcb12 := hc12
        try simp only [decide_eq_true_eq, decide_eq_false_iff_not] at hc12
        have h12 : lo = ctypeL := eqT.1 hcb12
        refine CW.seq ?_
        -- region 6
        refine CW.region ?_
        first
          | refine RW.op1 rfl (runs_fieldAddr0 rfl Tryd.underlying30 rfl ti9 (by decide)) ?_
          | refine RW.op1 rfl (runs_fieldAddr rfl Tryd.underlying30 rfl ti9 (by decide)) ?_
        first
          | refine RW.op1 rfl (runs_load1 sc9 rfl (hst.cell_own (k := 0) rfl rfl)) ?_
          | refine RW.op1 rfl (runs_load1 sc9 rfl (hst.cell_own (k := 1) rfl rfl)) ?_
          | refine RW.op1 rfl (runs_load1 sc9 rfl (hst.cell_own (k := 2) rfl rfl)) ?_
        refine RW.call rfl call52 rfl rfl (cut59_spec hst hM v (by omega)) ?_
        rintro e w ⟨rfl, hstn⟩
        clear hst
        have hst := hstn
        clear hstn
        refine ⟨_, rfl, ?_⟩
        refine RW.op1 rfl (runs_move rfl) ?_
        refine RW.op1 rfl (runs_extract rfl rfl) ?_
        refine RW.op1 rfl (runs_extract rfl rfl) ?_
        refine RW.op1 rfl (runs_extract rfl rfl) ?_
        refine RW.op1 rfl (runs_assign rfl) ?_
        refine RW.op1 rfl (runs_assign rfl) ?_
        refine RW.op1 rfl (runs_assign rfl) ?_
        refine RW.done ?_
        refine AQ.next ?_
        refine CW.seq ?_
        -- region 7
        refine CW.region ?_
        refine RW.op1 rfl (runs_move rfl) ?_
        refine RW.call rfl call24 rfl rfl (trim_spec hst (strOf (untilL [59] v.toList).1) (by rw [strOfZ]; omega)) ?_
        rintro e w ⟨rfl, hstn⟩
        clear hst
        have hst := hstn
        clear hstn
        rw [strOf_toList]
        have htl := trimB_len (untilL [59] v.toList).1
        refine ⟨_, rfl, ?_⟩
        refine RW.call rfl call23 rfl rfl (lower_spec hst (strOf (trimB (untilL [59] v.toList).1)) (by rw [strOfZ]; omega)) ?_
        rintro e w ⟨I5, hI5, rfl, hstn⟩
        clear hst
        have hst := hstn
        clear hstn
        rw [strOf_toList]
        replace hM := hM.mono hI5
        replace hle := hle.trans hI5
        refine ⟨_, rfl, ?_⟩
        refine RW.op1 rfl (runs_eqS rfl rfl) ?_
        refine RW.op1 rfl (runs_assign rfl) ?_
        refine RW.done ?_
        refine AQ.next ?_
        refine CW.ret ?_
        refine AQ.block_ret ?_
        refine AQ.past_ret ?_
        refine AQ.ret1 rfl rfl ?_
        refine ⟨_, hle, ?_, hst.drop1⟩
        unfold simpleL normL
        rw [hlo, eqB]
        simp [h9.1, h9.2, h12]
        rfl
      · have hcb12 := hc12
        try simp only [decide_eq_true_eq, decide_eq_false_iff_not] at hc12
        have h12 : lo ≠ ctypeL := eqF.1 hcb12
        refine CW.skip ?_
        refine AQ.block_normal ?_
        refine AQ.next ?_
        refine CW.seq ?_
        -- region 8
        refine CW.region ?_
        refine RW.op1 rfl (runs_assign rfl) ?_
        refine RW.done ?_
        refine AQ.next ?_
        refine CW.ret ?_
        refine AQ.ret1 rfl rfl ?_
        refine ⟨_, hle, ?_, hst.drop1⟩
        unfold simpleL
        rw [hlo]
        simp [h9.1, h9.2, h12]
set_option maxRecDepth 100000 in
set_option maxHeartbeats 1000000 in
theorem refSimple_spec {w0 w : World} {I : Imm} {L : Own} (hst : St w0 w I L) (n v : ByteArray) (hn : n.size ≤ 4294967280) (hv : v.size ≤ 4294967280) :
    Calls Tryd.prog 45 #[.agg #[.string n, .string v]] w fun e w' => ∃ I', Imm.le I I' ∧ e = .returned (.bool (simpleL n.toList v.toList)) ∧ St w0 w' I' L := by
  have hnz := size_toList n
  have hvz := size_toList v
  have hul := untilL_fst_len 59 v.toList
  refine enter Tryd.func45 rfl (N := 23) rfl rfl ?_
  simp only [List.zipIdx_cons, List.zipIdx_nil, List.map_cons, List.map_nil, Nat.zero_add, Nat.reduceAdd]
  have hle := Imm.le.refl I
  refine CW.seq ?_
  -- region 0
  refine CW.region ?_
  refine RW.opE rfl (runs_box rfl hst) ?_
  rintro _ w ⟨b1, rfl, hstn⟩
  clear hst
  have hst := hstn
  clear hstn
  refine RW.op1 rfl (runs_assign rfl) ?_
  refine RW.done ?_
  refine AQ.next ?_
  refine CW.seq ?_
  refine CW.seq ?_
  -- region 1
  refine CW.region ?_
  first
    | refine RW.op1 rfl (runs_fieldAddr0 rfl Tryd.underlying30 rfl ti9 (by decide)) ?_
    | refine RW.op1 rfl (runs_fieldAddr rfl Tryd.underlying30 rfl ti9 (by decide)) ?_
  first
    | refine RW.op1 rfl (runs_load1 sc9 rfl (hst.cell_own (k := 0) rfl rfl)) ?_
    | refine RW.op1 rfl (runs_load1 sc9 rfl (hst.cell_own (k := 1) rfl rfl)) ?_
    | refine RW.op1 rfl (runs_load1 sc9 rfl (hst.cell_own (k := 2) rfl rfl)) ?_
  refine RW.call rfl call37 rfl rfl (refLower_spec hst n (by omega)) ?_
  rintro e w ⟨I1, hI1, rfl, hstn⟩
  clear hst
  have hst := hstn
  clear hstn
  obtain ⟨lo, hlo⟩ : ∃ l, lower n.toList = l := ⟨_, rfl⟩
  rw [hlo]
  replace hle := hle.trans hI1
  refine ⟨_, rfl, ?_⟩
  refine RW.done ?_
  refine AQ.next ?_
  refine CW.block ?_
  refine CW.seq ?_
  refine CW.seq ?_
  -- region 2
  refine CW.region ?_
  refine RW.op1 rfl (runs_eqS rfl rfl) ?_
  refine RW.op1 rfl (runs_assign rfl) ?_
  refine RW.done ?_
  refine AQ.next ?_
  refine CW.cut Unit (fun _ w => St w0 w I1 ((b1, Obj.cells (Value.agg #[.string n, .string v]).cells 30) :: L)) (fun _ => [(1, .pointer (some ⟨b1, 0, none⟩)), (7, .string (strOf lo)), (8, .bool (decide (lo = acceptL ∨ lo = langL)))]) ?_ ?_
  · refine CW.cond rfl (fun hc8 => ?_) (fun hc8 => ?_)
    · have hcb8 := hc8
      try simp only [decide_eq_true_eq, decide_eq_false_iff_not] at hc8
      refine CW.skip ?_
      exact AQ.meet () hst ⟨rfl, rfl, boolN (by simp_all [strOf_toList, litL, acceptL, langL]), trivial⟩
    · have hcb8 := hc8
      try simp only [decide_eq_true_eq, decide_eq_false_iff_not] at hc8
      -- region 3
      refine CW.region ?_
      refine RW.op1 rfl (runs_eqS rfl rfl) ?_
      refine RW.op1 rfl (runs_assign rfl) ?_
      refine RW.done ?_
      exact AQ.meet () hst ⟨rfl, rfl, boolN (by simp_all [strOf_toList, litL, acceptL, langL]), trivial⟩
  · rintro _ w hstn
    clear hst
    have hst := hstn
    clear hstn
    refine AQ.next ?_
    refine CW.cond rfl (fun hc8 => ?_) (fun hc8 => ?_)
    · have hcb8 := hc8
      try simp only [decide_eq_true_eq, decide_eq_false_iff_not] at hc8
      have h9 : lo = acceptL ∨ lo = langL := of_decide_eq_true hcb8
      refine CW.seq ?_
      -- region 4
      refine CW.region ?_
      refine RW.op1 rfl (runs_assign rfl) ?_
      refine RW.done ?_
      refine AQ.next ?_
      refine CW.ret ?_
      refine AQ.block_ret ?_
      refine AQ.past_ret ?_
      refine AQ.ret1 rfl rfl ?_
      refine ⟨_, hle, ?_, hst.drop1⟩
      unfold simpleL
      rw [hlo]
      rcases h9 with h | h <;> simp [h]
    · have hcb8 := hc8
      try simp only [decide_eq_true_eq, decide_eq_false_iff_not] at hc8
      have h9 : ¬ (lo = acceptL ∨ lo = langL) := of_decide_eq_false hcb8
      rw [not_or] at h9
      refine CW.seq ?_
      -- region 5
      refine CW.region ?_
      refine RW.op1 rfl (runs_eqS rfl rfl) ?_
      refine RW.op1 rfl (runs_assign rfl) ?_
      refine RW.done ?_
      refine AQ.next ?_
      refine CW.cond rfl (fun hc11 => ?_) (fun hc11 => ?_)
      · have hcb11 := hc11
        try simp only [decide_eq_true_eq, decide_eq_false_iff_not] at hc11
        have h12 : lo = ctypeL := eqT.1 hcb11
        refine CW.seq ?_
        -- region 6
        refine CW.region ?_
        first
          | refine RW.op1 rfl (runs_fieldAddr0 rfl Tryd.underlying30 rfl ti9 (by decide)) ?_
          | refine RW.op1 rfl (runs_fieldAddr rfl Tryd.underlying30 rfl ti9 (by decide)) ?_
        first
          | refine RW.op1 rfl (runs_load1 sc9 rfl (hst.cell_own (k := 0) rfl rfl)) ?_
          | refine RW.op1 rfl (runs_load1 sc9 rfl (hst.cell_own (k := 1) rfl rfl)) ?_
          | refine RW.op1 rfl (runs_load1 sc9 rfl (hst.cell_own (k := 2) rfl rfl)) ?_
        refine RW.call rfl call46 rfl rfl (until_spec hst v ⟨#[59]⟩ (by omega) (by decide)) ?_
        rintro e w ⟨rfl, hstn⟩
        clear hst
        have hst := hstn
        clear hstn
        rw [litL]
        refine ⟨_, rfl, ?_⟩
        refine RW.op1 rfl (runs_move rfl) ?_
        refine RW.op1 rfl (runs_extract rfl rfl) ?_
        refine RW.op1 rfl (runs_extract rfl rfl) ?_
        refine RW.op1 rfl (runs_assign rfl) ?_
        refine RW.op1 rfl (runs_assign rfl) ?_
        refine RW.done ?_
        refine AQ.next ?_
        refine CW.seq ?_
        -- region 7
        refine CW.region ?_
        refine RW.op1 rfl (runs_move rfl) ?_
        refine RW.call rfl call47 rfl rfl (rtrim_spec hst (strOf (untilL [59] v.toList).1) (by rw [strOfZ]; omega)) ?_
        rintro e w ⟨rfl, hstn⟩
        clear hst
        have hst := hstn
        clear hstn
        rw [strOf_toList]
        have htl := trimB_len (untilL [59] v.toList).1
        refine ⟨_, rfl, ?_⟩
        refine RW.call rfl call37 rfl rfl (refLower_spec hst (strOf (trimB (untilL [59] v.toList).1)) (by rw [strOfZ]; omega)) ?_
        rintro e w ⟨I5, hI5, rfl, hstn⟩
        clear hst
        have hst := hstn
        clear hstn
        rw [strOf_toList]
        replace hle := hle.trans hI5
        refine ⟨_, rfl, ?_⟩
        refine RW.op1 rfl (runs_eqS rfl rfl) ?_
        refine RW.op1 rfl (runs_assign rfl) ?_
        refine RW.done ?_
        refine AQ.next ?_
        refine CW.ret ?_
        refine AQ.block_ret ?_
        refine AQ.past_ret ?_
        refine AQ.ret1 rfl rfl ?_
        refine ⟨_, hle, ?_, hst.drop1⟩
        unfold simpleL normL
        rw [hlo, eqB]
        simp [h9.1, h9.2, h12]
        rfl
      · have hcb11 := hc11
        try simp only [decide_eq_true_eq, decide_eq_false_iff_not] at hc11
        have h12 : lo ≠ ctypeL := eqF.1 hcb11
        refine CW.skip ?_
        refine AQ.block_normal ?_
        refine AQ.next ?_
        refine CW.seq ?_
        -- region 8
        refine CW.region ?_
        refine RW.op1 rfl (runs_assign rfl) ?_
        refine RW.done ?_
        refine AQ.next ?_
        refine CW.ret ?_
        refine AQ.ret1 rfl rfl ?_
        refine ⟨_, hle, ?_, hst.drop1⟩
        unfold simpleL
        rw [hlo]
        simp [h9.1, h9.2, h12]
end Go.Proofs.YtfdgnjbbchkgpaaDoorX
