/- The document's values, its encoding, its decoding: what these come to. -/
import Derived.Test.YtoegloebnnjflaaT
import Derived.Test.YtoegloebnnjflaaA9
namespace Go.Proofs.YtoegloebnnjflaaX
set_option linter.unusedVariables false
set_option linter.unusedSimpArgs false
open Go Go.RowKit Go.Proofs

set_option maxRecDepth 100000 in
set_option maxHeartbeats 1000000 in
theorem refI_spec {w0 w : World} {I : Imm} {L : Own} (hst : St w0 w I L) (n : Int) :
    Calls Try.prog 28 #[.int .i64 n] w fun e w' => e = .returned (.agg (refRow (.num n)).toArray) ∧ St w0 w' I L := by
  refine enter Try.func28 rfl (N := 5) rfl rfl ?_
  simp only [List.zipIdx_cons, List.zipIdx_nil, List.map_cons, List.map_nil, Nat.zero_add, Nat.reduceAdd]
  have hle := Imm.le.refl I
  refine CW.seq ?_
  -- region 0
  refine CW.region ?_
  refine RW.opE rfl (runs_alloc ti55 hst) ?_
  rintro _ w ⟨b1, rfl, hstn⟩
  clear hst
  have hst := hstn
  clear hstn
  refine RW.done ?_
  refine AQ.next ?_
  refine CW.seq ?_
  -- region 1
  refine CW.region ?_
  refine RW.op1 rfl (runs_move rfl) ?_
  refine RW.op1 rfl (runs_buildF (cells := [_, _, _, _]) bz55 rfl rfl rfl rfl rfl) ?_
  first
    | refine RW.opE0 (runs_storeW ti55 rfl rfl hst (k := 0) rfl rfl rfl (NoFz.zero _) rfl) ?_
    | refine RW.opE0 (runs_storeP ti55 rfl rfl hst (k := 0) rfl rfl rfl (NoFz.zero _) rfl) ?_
    | refine RW.opE0 (runs_storeW ti55 rfl rfl hst (k := 1) rfl rfl rfl (NoFz.zero _) rfl) ?_
    | refine RW.opE0 (runs_storeP ti55 rfl rfl hst (k := 1) rfl rfl rfl (NoFz.zero _) rfl) ?_
    | refine RW.opE0 (runs_storeW ti55 rfl rfl hst (k := 2) rfl rfl rfl (NoFz.zero _) rfl) ?_
    | refine RW.opE0 (runs_storeP ti55 rfl rfl hst (k := 2) rfl rfl rfl (NoFz.zero _) rfl) ?_
  rintro w hstn
  clear hst
  have hst := hstn
  clear hstn
  try simp only [List.set_cons_zero, List.set_cons_succ] at hst
  refine RW.done ?_
  refine AQ.next ?_
  refine CW.ret ?_
  refine AQ.retS rfl rfl (hst.loadN (vs := [_, _, _, _]) (k := 0) ag55 ti55 rfl rfl rfl) ?_
  exact ⟨rfl, hst.drop1⟩
set_option maxRecDepth 100000 in
set_option maxHeartbeats 1000000 in
theorem refS_spec {w0 w : World} {I : Imm} {L : Own} (hst : St w0 w I L) (n : ByteArray) :
    Calls Try.prog 29 #[.string n] w fun e w' => e = .returned (.agg (refRow (.txt n)).toArray) ∧ St w0 w' I L := by
  refine enter Try.func29 rfl (N := 5) rfl rfl ?_
  simp only [List.zipIdx_cons, List.zipIdx_nil, List.map_cons, List.map_nil, Nat.zero_add, Nat.reduceAdd]
  have hle := Imm.le.refl I
  refine CW.seq ?_
  -- region 0
  refine CW.region ?_
  refine RW.opE rfl (runs_alloc ti55 hst) ?_
  rintro _ w ⟨b1, rfl, hstn⟩
  clear hst
  have hst := hstn
  clear hstn
  refine RW.done ?_
  refine AQ.next ?_
  refine CW.seq ?_
  -- region 1
  refine CW.region ?_
  refine RW.op1 rfl (runs_move rfl) ?_
  refine RW.op1 rfl (runs_buildF (cells := [_, _, _, _]) bz55 rfl rfl rfl rfl rfl) ?_
  first
    | refine RW.opE0 (runs_storeW ti55 rfl rfl hst (k := 0) rfl rfl rfl (NoFz.zero _) rfl) ?_
    | refine RW.opE0 (runs_storeP ti55 rfl rfl hst (k := 0) rfl rfl rfl (NoFz.zero _) rfl) ?_
    | refine RW.opE0 (runs_storeW ti55 rfl rfl hst (k := 1) rfl rfl rfl (NoFz.zero _) rfl) ?_
    | refine RW.opE0 (runs_storeP ti55 rfl rfl hst (k := 1) rfl rfl rfl (NoFz.zero _) rfl) ?_
    | refine RW.opE0 (runs_storeW ti55 rfl rfl hst (k := 2) rfl rfl rfl (NoFz.zero _) rfl) ?_
    | refine RW.opE0 (runs_storeP ti55 rfl rfl hst (k := 2) rfl rfl rfl (NoFz.zero _) rfl) ?_
  rintro w hstn
  clear hst
  have hst := hstn
  clear hstn
  try simp only [List.set_cons_zero, List.set_cons_succ] at hst
  refine RW.done ?_
  refine AQ.next ?_
  refine CW.ret ?_
  refine AQ.retS rfl rfl (hst.loadN (vs := [_, _, _, _]) (k := 0) ag55 ti55 rfl rfl rfl) ?_
  exact ⟨rfl, hst.drop1⟩
set_option maxRecDepth 100000 in
set_option maxHeartbeats 1000000 in
theorem refB_spec {w0 w : World} {I : Imm} {L : Own} (hst : St w0 w I L) (n : Bool) :
    Calls Try.prog 30 #[.bool n] w fun e w' => e = .returned (.agg (refRow (.flg n)).toArray) ∧ St w0 w' I L := by
  refine enter Try.func30 rfl (N := 5) rfl rfl ?_
  simp only [List.zipIdx_cons, List.zipIdx_nil, List.map_cons, List.map_nil, Nat.zero_add, Nat.reduceAdd]
  have hle := Imm.le.refl I
  refine CW.seq ?_
  -- region 0
  refine CW.region ?_
  refine RW.opE rfl (runs_alloc ti55 hst) ?_
  rintro _ w ⟨b1, rfl, hstn⟩
  clear hst
  have hst := hstn
  clear hstn
  refine RW.done ?_
  refine AQ.next ?_
  refine CW.seq ?_
  -- region 1
  refine CW.region ?_
  refine RW.op1 rfl (runs_move rfl) ?_
  refine RW.op1 rfl (runs_buildF (cells := [_, _, _, _]) bz55 rfl rfl rfl rfl rfl) ?_
  first
    | refine RW.opE0 (runs_storeW ti55 rfl rfl hst (k := 0) rfl rfl rfl (NoFz.zero _) rfl) ?_
    | refine RW.opE0 (runs_storeP ti55 rfl rfl hst (k := 0) rfl rfl rfl (NoFz.zero _) rfl) ?_
    | refine RW.opE0 (runs_storeW ti55 rfl rfl hst (k := 1) rfl rfl rfl (NoFz.zero _) rfl) ?_
    | refine RW.opE0 (runs_storeP ti55 rfl rfl hst (k := 1) rfl rfl rfl (NoFz.zero _) rfl) ?_
    | refine RW.opE0 (runs_storeW ti55 rfl rfl hst (k := 2) rfl rfl rfl (NoFz.zero _) rfl) ?_
    | refine RW.opE0 (runs_storeP ti55 rfl rfl hst (k := 2) rfl rfl rfl (NoFz.zero _) rfl) ?_
  rintro w hstn
  clear hst
  have hst := hstn
  clear hstn
  try simp only [List.set_cons_zero, List.set_cons_succ] at hst
  refine RW.done ?_
  refine AQ.next ?_
  refine CW.ret ?_
  refine AQ.retS rfl rfl (hst.loadN (vs := [_, _, _, _]) (k := 0) ag55 ti55 rfl rfl rfl) ?_
  exact ⟨rfl, hst.drop1⟩
set_option maxRecDepth 100000 in
set_option maxHeartbeats 1000000 in
theorem refs_spec {w0 w : World} {I : Imm} {L : Own} (hst : St w0 w I L) {v : Value} {av : List AV} {m : Nat} {o : Bool} (hv : RdA I v av) (hgood : ∀ a ∈ av, a.good m o) (hlen : av.length ≤ 2000000) :
    Calls Try.prog 20 #[v] w fun e w' => ∃ I' v', Imm.le I I' ∧ e = .returned v' ∧ St w0 w' I' L ∧ RdV I' v' av := by
  refine enter Try.func20 rfl (N := 47) rfl rfl ?_
  simp only [List.zipIdx_cons, List.zipIdx_nil, List.map_cons, List.map_nil, Nat.zero_add, Nat.reduceAdd]
  have hle := Imm.le.refl I
  refine CW.seq ?_
  -- region 0
  refine CW.region ?_
  refine RW.op1 rfl (runs_assign rfl) ?_
  refine RW.done ?_
  refine AQ.next ?_
  refine CW.seq ?_
  -- region 1
  refine CW.region ?_
  refine RW.op1 rfl (runs_assign rfl) ?_
  refine RW.done ?_
  refine AQ.next ?_
  refine CW.seq ?_
  refine CW.seq ?_
  -- region 2
  refine CW.region ?_
  refine RW.op1 rfl (runs_move rfl) ?_
  refine RW.op1 rfl (RdL.len Try.underlying23 rfl hv) ?_
  refine RW.op1 rfl (runs_move rfl) ?_
  refine RW.done ?_
  refine AQ.next ?_
  refine CW.block ?_
  -- loop 1
  refine CW.loop (Nat × Value × Own × Imm) (fun x w => St w0 w x.2.2.2 (x.2.2.1 ++ L) ∧ I.le x.2.2.2 ∧ GrowV x.2.1 (av.take x.1) x.2.2.1 ∧ x.1 ≤ av.length) (fun x => [(3, x.2.1), (10, v), (11, .int .i64 (av.length : Nat)), (12, .int .i64 (x.1 : Int))]) (fun x => av.length - x.1) ⟨(0, .slice none 0 0, [], I), ⟨hst, Imm.le.refl _, Grow.nil _ _, Nat.zero_le _⟩, ⟨rfl, rfl, rfl, rfl, trivial⟩⟩ ?_
  rintro ⟨k, vo, Lo, J⟩ w ⟨hstn, hle, hg, hk0⟩
  dsimp only at hstn hle hg hk0 ⊢
  clear hst
  have hst := hstn
  clear hstn
  refine CW.seq ?_
  -- region 3
  refine CW.region ?_
  refine RW.op1 rfl (runs_lss rfl rfl) ?_
  refine RW.done ?_
  refine AQ.next ?_
  refine CW.seq ?_
  refine CW.cond rfl (fun hc13 => ?_) (fun hc13 => ?_)
  · have hcb13 := hc13
    try simp only [decide_eq_true_eq, decide_eq_false_iff_not] at hc13
    have hk : k < av.length := by omega
    have hvk := RdL.mono hle hv
    have hga := hgood _ (List.getElem_mem hk)
    have hat := RdA.at (i := (k : Int)) hvk (by omega) (by omega)
    simp only [Int.toNat_natCast] at hat
    obtain ⟨a, ha⟩ : ∃ a, av[k] = a := ⟨_, rfl⟩
    have hak : av[k]? = some a := by rw [List.getElem?_eq_getElem hk, ha]
    rw [ha] at hat hga
    have hisI := AV.isI hga
    have htk : (av.take k).length = k := by rw [List.length_take]; omega
    refine CW.skip ?_
    refine AQ.next ?_
    refine CW.seq ?_
    refine CW.block ?_
    refine CW.seq ?_
    -- region 4
    refine CW.region ?_
    refine RW.op1 rfl (RdL.indexAddr Try.underlying23 ti20 (by decide) rfl rfl hvk (by omega)) ?_
    refine RW.op1 rfl (runs_load1 sc20 rfl (hst.cell_imm hat)) ?_
    refine RW.op1 rfl (runs_assign rfl) ?_
    refine RW.done ?_
    refine AQ.next ?_
    refine CW.seq ?_
    -- region 5
    refine CW.region ?_
    refine RW.op1 rfl (runs_move rfl) ?_
    refine RW.done ?_
    refine AQ.next ?_
    refine CW.block ?_
    refine CW.seq ?_
    -- region 8
    refine CW.region ?_
    refine RW.op1 rfl (runs_assertOk con3 ti3 rfl (by first | rfl | assumption)) ?_
    refine RW.op1 rfl (runs_extract rfl rfl) ?_
    refine RW.op1 rfl (runs_extract rfl rfl) ?_
    refine RW.done ?_
    refine AQ.next ?_
    refine CW.cond rfl (fun hc22 => ?_) (fun hc22 => ?_)
    · have hcb22 := hc22
      try simp only [decide_eq_true_eq, decide_eq_false_iff_not] at hc22
      obtain ⟨n, rfl⟩ := AV.asB_num hga hcb22
      refine CW.seq ?_
      -- region 9
      refine CW.region ?_
      refine RW.op1 rfl (runs_assign rfl) ?_
      refine RW.done ?_
      refine AQ.next ?_
      -- region 10
      refine CW.region ?_
      refine RW.op1 rfl (runs_move rfl) ?_
      refine RW.op1 rfl (runs_move rfl) ?_
      refine RW.call rfl call28 rfl rfl (refI_spec hst n) ?_
      rintro e w ⟨rfl, hstn⟩
      clear hst
      have hst := hstn
      clear hstn
      refine ⟨_, rfl, ?_⟩
      refine RW.opE rfl (runs_litF (xs := [.agg #[_, _, _, _]]) Try.underlying50 ti55 (by decide) rfl rfl rfl rfl rfl hst (by decide)) ?_
      rintro u2 w ⟨Lv2, hstn, hg2⟩
      clear hst
      have hst := hstn
      clear hstn
      obtain ⟨J2, hJ2, hstn, h2⟩ := Grow.freeze hg2 hst
      clear hst
      have hst := hstn
      clear hstn
      replace hle := hle.trans hJ2
      try simp only [List.nil_append] at h2
      replace h2 : RdL _ 4 u2 1 (refRow (.num n)) := h2
      have hR27 := h2
      refine RW.opE rfl (runs_appendR Try.underlying50 ti55 rfl (by decide) rfl rfl hst hg hR27 (by omega) (by unfold maxLen; omega)) ?_
      rintro u3 w ⟨Lv3, hstn, hg3⟩
      clear hst
      have hst := hstn
      clear hstn
      refine RW.op1 rfl (runs_assign rfl) ?_
      refine RW.done ?_
      refine AQ.block_normal ?_
      refine AQ.block_normal ?_
      refine AQ.next ?_
      -- region 17
      refine CW.region ?_
      refine RW.op1 rfl (runs_add rfl rfl (by omega)) ?_
      refine RW.op1 rfl (runs_move rfl) ?_
      refine RW.done ?_
      exact AQ.again (x := (k, vo, Lo, J)) (k + 1, _, _, _) ⟨hst, hle, by rw [av_take hak]; exact GrowV.push (by assumption), by omega⟩ ⟨rfl, rfl, rfl, rfl, trivial⟩ (by dsimp only; omega)
    · have hcb22 := hc22
      try simp only [decide_eq_true_eq, decide_eq_false_iff_not] at hc22
      skip
      refine CW.seq ?_
      -- region 11
      refine CW.region ?_
      refine RW.op1 rfl (runs_assertOk con9 ti9 rfl (by first | rfl | assumption)) ?_
      refine RW.op1 rfl (runs_extract rfl rfl) ?_
      refine RW.op1 rfl (runs_extract rfl rfl) ?_
      refine RW.done ?_
      refine AQ.next ?_
      refine CW.cond rfl (fun hc30 => ?_) (fun hc30 => ?_)
      · have hcb30 := hc30
        try simp only [decide_eq_true_eq, decide_eq_false_iff_not] at hc30
        obtain ⟨n, rfl⟩ := AV.asB_txt hga hcb30
        refine CW.seq ?_
        -- region 12
        refine CW.region ?_
        refine RW.op1 rfl (runs_assign rfl) ?_
        refine RW.done ?_
        refine AQ.next ?_
        -- region 13
        refine CW.region ?_
        refine RW.op1 rfl (runs_move rfl) ?_
        refine RW.op1 rfl (runs_move rfl) ?_
        refine RW.call rfl call29 rfl rfl (refS_spec hst n) ?_
        rintro e w ⟨rfl, hstn⟩
        clear hst
        have hst := hstn
        clear hstn
        refine ⟨_, rfl, ?_⟩
        refine RW.opE rfl (runs_litF (xs := [.agg #[_, _, _, _]]) Try.underlying50 ti55 (by decide) rfl rfl rfl rfl rfl hst (by decide)) ?_
        rintro u5 w ⟨Lv5, hstn, hg5⟩
        clear hst
        have hst := hstn
        clear hstn
        obtain ⟨J5, hJ5, hstn, h5⟩ := Grow.freeze hg5 hst
        clear hst
        have hst := hstn
        clear hstn
        replace hle := hle.trans hJ5
        try simp only [List.nil_append] at h5
        replace h5 : RdL _ 4 u5 1 (refRow (.txt n)) := h5
        have hR35 := h5
        refine RW.opE rfl (runs_appendR Try.underlying50 ti55 rfl (by decide) rfl rfl hst hg hR35 (by omega) (by unfold maxLen; omega)) ?_
        rintro u6 w ⟨Lv6, hstn, hg6⟩
        clear hst
        have hst := hstn
        clear hstn
        refine RW.op1 rfl (runs_assign rfl) ?_
        refine RW.done ?_
        refine AQ.block_normal ?_
        refine AQ.block_normal ?_
        refine AQ.next ?_
        -- region 17
        refine CW.region ?_
        refine RW.op1 rfl (runs_add rfl rfl (by omega)) ?_
        refine RW.op1 rfl (runs_move rfl) ?_
        refine RW.done ?_
        exact AQ.again (x := (k, vo, Lo, J)) (k + 1, _, _, _) ⟨hst, hle, by rw [av_take hak]; exact GrowV.push (by assumption), by omega⟩ ⟨rfl, rfl, rfl, rfl, trivial⟩ (by dsimp only; omega)
      · have hcb30 := hc30
        try simp only [decide_eq_true_eq, decide_eq_false_iff_not] at hc30
        skip
        refine CW.seq ?_
        -- region 14
        refine CW.region ?_
        refine RW.op1 rfl (runs_assertOk con4 ti4 rfl (by first | rfl | assumption)) ?_
        refine RW.op1 rfl (runs_extract rfl rfl) ?_
        refine RW.op1 rfl (runs_extract rfl rfl) ?_
        refine RW.done ?_
        refine AQ.next ?_
        refine CW.cond rfl (fun hc38 => ?_) (fun hc38 => ?_)
        · have hcb38 := hc38
          try simp only [decide_eq_true_eq, decide_eq_false_iff_not] at hc38
          obtain ⟨n, rfl⟩ := AV.asB_flg hga hcb38
          refine CW.seq ?_
          -- region 15
          refine CW.region ?_
          refine RW.op1 rfl (runs_assign rfl) ?_
          refine RW.done ?_
          refine AQ.next ?_
          -- region 16
          refine CW.region ?_
          refine RW.op1 rfl (runs_move rfl) ?_
          refine RW.op1 rfl (runs_move rfl) ?_
          refine RW.call rfl call30 rfl rfl (refB_spec hst n) ?_
          rintro e w ⟨rfl, hstn⟩
          clear hst
          have hst := hstn
          clear hstn
          refine ⟨_, rfl, ?_⟩
          refine RW.opE rfl (runs_litF (xs := [.agg #[_, _, _, _]]) Try.underlying50 ti55 (by decide) rfl rfl rfl rfl rfl hst (by decide)) ?_
          rintro u8 w ⟨Lv8, hstn, hg8⟩
          clear hst
          have hst := hstn
          clear hstn
          obtain ⟨J8, hJ8, hstn, h8⟩ := Grow.freeze hg8 hst
          clear hst
          have hst := hstn
          clear hstn
          replace hle := hle.trans hJ8
          try simp only [List.nil_append] at h8
          replace h8 : RdL _ 4 u8 1 (refRow (.flg n)) := h8
          have hR43 := h8
          refine RW.opE rfl (runs_appendR Try.underlying50 ti55 rfl (by decide) rfl rfl hst hg hR43 (by omega) (by unfold maxLen; omega)) ?_
          rintro u9 w ⟨Lv9, hstn, hg9⟩
          clear hst
          have hst := hstn
          clear hstn
          refine RW.op1 rfl (runs_assign rfl) ?_
          refine RW.done ?_
          refine AQ.block_normal ?_
          refine AQ.block_normal ?_
          refine AQ.next ?_
          -- region 17
          refine CW.region ?_
          refine RW.op1 rfl (runs_add rfl rfl (by omega)) ?_
          refine RW.op1 rfl (runs_move rfl) ?_
          refine RW.done ?_
          exact AQ.again (x := (k, vo, Lo, J)) (k + 1, _, _, _) ⟨hst, hle, by rw [av_take hak]; exact GrowV.push (by assumption), by omega⟩ ⟨rfl, rfl, rfl, rfl, trivial⟩ (by dsimp only; omega)
        · have hcb38 := hc38
          try simp only [decide_eq_true_eq, decide_eq_false_iff_not] at hc38
          obtain ⟨n, rfl⟩ := AV.asB_oth hcb22 hcb30 hcb38
          refine CW.seq ?_
          -- region 6
          refine CW.region ?_
          refine RW.op1 rfl (runs_assign rfl) ?_
          refine RW.done ?_
          refine AQ.next ?_
          -- region 7
          refine CW.region ?_
          refine RW.op1 rfl (runs_move rfl) ?_
          refine RW.op1 rfl (runs_buildF (cells := [_, _, _, _]) bz55 rfl rfl rfl rfl rfl) ?_
          refine RW.opE rfl (runs_litF (xs := [.agg #[_, _, _, _]]) Try.underlying50 ti55 (by decide) rfl rfl rfl rfl rfl hst (by decide)) ?_
          rintro u10 w ⟨Lv10, hstn, hg10⟩
          clear hst
          have hst := hstn
          clear hstn
          obtain ⟨J10, hJ10, hstn, h10⟩ := Grow.freeze hg10 hst
          clear hst
          have hst := hstn
          clear hstn
          replace hle := hle.trans hJ10
          try simp only [List.nil_append] at h10
          replace h10 : RdL _ 4 u10 1 (refRow (.oth n)) := h10
          have hR19 := h10
          refine RW.opE rfl (runs_appendR Try.underlying50 ti55 rfl (by decide) rfl rfl hst hg hR19 (by omega) (by unfold maxLen; omega)) ?_
          rintro u11 w ⟨Lv11, hstn, hg11⟩
          clear hst
          have hst := hstn
          clear hstn
          refine RW.op1 rfl (runs_assign rfl) ?_
          refine RW.done ?_
          refine AQ.block_normal ?_
          refine AQ.block_normal ?_
          refine AQ.next ?_
          -- region 17
          refine CW.region ?_
          refine RW.op1 rfl (runs_add rfl rfl (by omega)) ?_
          refine RW.op1 rfl (runs_move rfl) ?_
          refine RW.done ?_
          exact AQ.again (x := (k, vo, Lo, J)) (k + 1, _, _, _) ⟨hst, hle, by rw [av_take hak]; exact GrowV.push (by assumption), by omega⟩ ⟨rfl, rfl, rfl, rfl, trivial⟩ (by dsimp only; omega)
  · have hcb13 := hc13
    try simp only [decide_eq_true_eq, decide_eq_false_iff_not] at hc13
    skip
    refine CW.exit ?_
    refine AQ.past_exit ?_
    refine AQ.past_exit ?_
    refine AQ.block_hit ?_
    refine AQ.next ?_
    refine CW.seq ?_
    -- region 18
    refine CW.region ?_
    have hkl : av.take k = av := List.take_of_length_le (by omega)
    rw [hkl] at hg
    obtain ⟨J9, hJ9, hstn, hr9⟩ := Grow.freeze hg hst
    clear hst
    have hst := hstn
    clear hstn
    refine RW.op1 rfl (runs_move rfl) ?_
    refine RW.op1 rfl (runs_assign rfl) ?_
    refine RW.done ?_
    refine AQ.next ?_
    refine CW.ret ?_
    refine AQ.ret1 rfl rfl ?_
    exact ⟨J9, _, hle.trans hJ9, rfl, hst, hr9⟩
set_option maxRecDepth 100000 in
set_option maxHeartbeats 1000000 in
theorem refenc_spec {w0 w : World} {I : Imm} {L : Own} (hst : St w0 w I L) {v : Value} {av : List AV} {m : Nat} {o : Bool} (hv : RdV I v av) (hgood : ∀ a ∈ av, a.good m o) (hlen : av.length ≤ 1000) :
    Calls Try.prog 19 #[v] w fun r w' => ∃ I' v', Imm.le I I' ∧ r = .returned (.tuple #[v', .bool (encOk av)]) ∧ St w0 w' I' L ∧ RdB I' v' (if encOk av then encA av else []) := by
  refine enter Try.func19 rfl (N := 63) rfl rfl ?_
  simp only [List.zipIdx_cons, List.zipIdx_nil, List.map_cons, List.map_nil, Nat.zero_add, Nat.reduceAdd]
  have hle := Imm.le.refl I
  refine CW.seq ?_
  -- region 0
  refine CW.region ?_
  refine RW.op1 rfl (runs_assign rfl) ?_
  refine RW.op1 rfl (runs_assign rfl) ?_
  refine RW.done ?_
  refine AQ.next ?_
  refine CW.seq ?_
  -- region 1
  refine CW.region ?_
  refine RW.op1 rfl (runs_assign rfl) ?_
  refine RW.done ?_
  refine AQ.next ?_
  refine CW.seq ?_
  refine CW.seq ?_
  -- region 2
  refine CW.region ?_
  refine RW.op1 rfl (runs_move rfl) ?_
  refine RW.op1 rfl (RdL.len Try.underlying50 rfl hv) ?_
  refine RW.op1 rfl (runs_move rfl) ?_
  refine RW.done ?_
  refine AQ.next ?_
  refine CW.block ?_
  -- loop 1
  refine CW.loop (Nat × Value × Own × Imm) (fun x w => I.le x.2.2.2 ∧ St w0 w x.2.2.2 (x.2.2.1 ++ L) ∧ GrowB 5 x.2.1 (encA (av.take x.1)) x.2.2.1 ∧ encOk (av.take x.1) = true ∧ x.1 ≤ av.length) (fun x => [(4, x.2.1), (8, v), (9, .int .i64 (av.length : Nat)), (10, .int .i64 (x.1 : Int))]) (fun x => av.length - x.1) ⟨(0, .slice none 0 0, [], I), ⟨Imm.le.refl _, hst, by rw [List.take_zero]; exact GrowB.nil _, rfl, Nat.zero_le _⟩, ⟨rfl, rfl, rfl, rfl, trivial⟩⟩ ?_
  rintro ⟨k, vo, Lo, I5⟩ w ⟨hle, hstn, hg, hok, hk0⟩
  dsimp only at hle hstn hg hok hk0 ⊢
  clear hst
  have hst := hstn
  clear hstn
  refine CW.seq ?_
  -- region 3
  refine CW.region ?_
  refine RW.op1 rfl (runs_lss rfl rfl) ?_
  refine RW.done ?_
  refine AQ.next ?_
  refine CW.seq ?_
  refine CW.cond rfl (fun hc11 => ?_) (fun hc11 => ?_)
  · have hcb11 := hc11
    try simp only [decide_eq_true_eq, decide_eq_false_iff_not] at hc11
    have hk : k < av.length := by omega
    have hga := hgood _ (List.getElem_mem hk)
    have hvk := RdL.mono hle hv
    have hsz := encA_le hok
    have htk : (av.take k).length ≤ 1000 := by rw [List.length_take]; omega
    obtain ⟨a, ha⟩ : ∃ a, av[k] = a := ⟨_, rfl⟩
    have e1 : av[k] = a := ha
    have hak : av[k]? = some a := by rw [List.getElem?_eq_getElem hk, ha]
    rw [ha] at hga
    refine CW.skip ?_
    refine AQ.next ?_
    refine CW.seq ?_
    refine CW.block ?_
    refine CW.seq ?_
    -- region 4
    refine CW.region ?_
    refine RW.op1 rfl (RdL.indexAddr Try.underlying50 ti55 (by decide) rfl rfl hvk (by omega)) ?_
    refine RW.op1 rfl (RdL.loadRow (row := refRow a) ag55 ti55 rfl hvk hst (refRow_len a) (by intro j u hj; rw [Int.toNat_natCast]; exact RdV.row hak j u hj)) ?_
    refine RW.opE rfl (runs_alloc ti55 hst) ?_
    rintro _ w ⟨b1, rfl, hstn⟩
    clear hst
    have hst := hstn
    clear hstn
    refine RW.opE0 (runs_storeW ti55 rfl rfl hst (k := 0) rfl (refRow_len a) rfl (NoFz.zero _) (refRow_all a)) ?_
    rintro w hstn
    clear hst
    have hst := hstn
    clear hstn
    try simp only [List.set_cons_zero, List.set_cons_succ] at hst
    refine RW.done ?_
    refine AQ.next ?_
    refine CW.seq ?_
    -- region 5
    refine CW.region ?_
    first
      | refine RW.op1 rfl (runs_fieldAddr0 rfl Try.underlying55 rfl ti3 (by decide)) ?_
      | refine RW.op1 rfl (runs_fieldAddr rfl Try.underlying55 rfl ti3 (by decide)) ?_
    refine RW.op1 rfl (runs_load1 sc3 rfl (hst.cell_own (v := .int .i64 (refKind a)) (k := 0) rfl (refRow_0 a))) ?_
    refine RW.done ?_
    refine AQ.next ?_
    refine CW.block ?_
    refine CW.seq ?_
    -- region 7
    refine CW.region ?_
    refine RW.op1 rfl (runs_eqI rfl rfl) ?_
    refine RW.op1 rfl (runs_assign rfl) ?_
    refine RW.done ?_
    refine AQ.next ?_
    refine CW.cond rfl (fun hc16 => ?_) (fun hc16 => ?_)
    · have hcb16 := hc16
      try simp only [decide_eq_true_eq, decide_eq_false_iff_not] at hc16
      obtain ⟨n, rfl⟩ := refKind_1 hc16
      refine CW.seq ?_
      -- region 8
      refine CW.region ?_
      refine RW.op1 rfl (runs_move rfl) ?_
      refine RW.opE rfl (runs_litB (bs := [105]) rfl Try.underlying26 ti5 (by decide) rfl rfl rfl hst) ?_
      rintro u3 w ⟨J3, hJ3, hstn, hL19⟩
      clear hst
      have hst := hstn
      clear hstn
      replace hle := hle.trans hJ3
      refine RW.opE rfl (runs_appendB Try.underlying26 ti5 rfl rfl (hst.perm List.perm_middle.symm) hg hL19 (by simp only [List.length_append, List.length_cons, List.length_nil]; omega)) ?_
      rintro u4 w ⟨Lv4, hstn, hG20⟩
      clear hst
      have hst := hstn
      clear hstn
      replace hst := hst.perm List.perm_middle
      refine RW.op1 rfl (runs_assign rfl) ?_
      refine RW.done ?_
      refine AQ.next ?_
      refine CW.seq ?_
      -- region 9
      refine CW.region ?_
      refine RW.op1 rfl (runs_assign rfl) ?_
      refine RW.done ?_
      refine AQ.next ?_
      refine CW.block ?_
      -- loop 2
      refine CW.loop (Nat × Value × Own × Imm) (fun x w => I.le x.2.2.2 ∧ St w0 w x.2.2.2 ((b1, .cells (refRow (.num n)).toArray 55) :: (x.2.2.1 ++ L)) ∧ GrowB 5 x.2.1 (encA (av.take k) ++ [105] ++ (be8 n).take x.1) x.2.2.1 ∧ x.1 ≤ 8) (fun x => [(6, .pointer (some ⟨b1, 0, none⟩)), (8, v), (9, .int .i64 (av.length : Nat)), (10, .int .i64 (k : Int)), (4, x.2.1), (7, .int .i64 (56 - 8 * (x.1 : Int)))]) (fun x => 8 - x.1) ⟨(0, _, _, _), ⟨hle, hst, by rw [List.take_zero, List.append_nil]; exact hG20, by omega⟩, ⟨rfl, rfl, rfl, rfl, rfl, rfl, trivial⟩⟩ ?_
      rintro ⟨j, vi, Li, I6⟩ w ⟨hle, hstn, hg, hj0⟩
      dsimp only at hle hstn hg hj0 ⊢
      clear hst
      have hst := hstn
      clear hstn
      refine CW.seq ?_
      refine CW.seq ?_
      -- region 10
      refine CW.region ?_
      refine RW.op1 rfl (runs_move rfl) ?_
      refine RW.op1 rfl (runs_geq rfl rfl) ?_
      refine RW.done ?_
      refine AQ.next ?_
      refine CW.cond rfl (fun hc22 => ?_) (fun hc22 => ?_)
      · have hcb22 := hc22
        try simp only [decide_eq_true_eq, decide_eq_false_iff_not] at hc22
        have hj : j < 8 := by omega
        have hbl : ((be8 n).take j).length ≤ 8 := by rw [List.length_take]; omega
        refine CW.skip ?_
        refine AQ.next ?_
        refine CW.seq ?_
        refine CW.block ?_
        -- region 12
        refine CW.region ?_
        refine RW.op1 rfl (runs_move rfl) ?_
        first
          | refine RW.op1 rfl (runs_fieldAddr0 rfl Try.underlying55 rfl ti3 (by decide)) ?_
          | refine RW.op1 rfl (runs_fieldAddr rfl Try.underlying55 rfl ti3 (by decide)) ?_
        refine RW.op1 rfl (runs_load1 sc3 rfl (hst.cell_own (v := .int .i64 n) (k := 0) rfl rfl)) ?_
        refine RW.op1 rfl (runs_convI (by rw [Try.underlying3]; rfl) Try.underlying61 rfl) ?_
        refine RW.op1 rfl (runs_move rfl) ?_
        refine RW.op1 rfl (runs_convI (by rw [Try.underlying3]; rfl) Try.underlying46 rfl) ?_
        have e30 : IntKind.u64.wrap (56 - 8 * (j : Int)) = ((8 * (7 - j) : Nat) : Int) := by rw [IntKind.wrap_u64]; omega
        rw [e30]
        refine RW.op1 rfl (runs_shr (n := 8 * (7 - j)) rfl rfl (by show 8 * (7 - j) ≤ 64; omega)) ?_
        refine RW.op1 rfl (runs_convB (by rw [Try.underlying61]; rfl) Try.underlying5 rfl) ?_
        refine RW.opE rfl (runs_litB (bs := [u8 ((IntKind.u64.wrap n).fdiv (2 ^ (8 * (7 - j))))]) rfl Try.underlying26 ti5 (by decide) rfl rfl rfl hst) ?_
        rintro u5 w ⟨J5, hJ5, hstn, hL33⟩
        clear hst
        have hst := hstn
        clear hstn
        replace hle := hle.trans hJ5
        refine RW.opE rfl (runs_appendB Try.underlying26 ti5 rfl rfl (hst.perm List.perm_middle.symm) hg hL33 (by simp only [List.length_append, List.length_cons, List.length_nil]; omega)) ?_
        rintro u6 w ⟨Lv6, hstn, hG34⟩
        clear hst
        have hst := hstn
        clear hstn
        replace hst := hst.perm List.perm_middle
        refine RW.op1 rfl (runs_assign rfl) ?_
        refine RW.done ?_
        refine AQ.block_normal ?_
        refine AQ.next ?_
        -- region 11
        refine CW.region ?_
        refine RW.op1 rfl (runs_move rfl) ?_
        refine RW.op1 rfl (runs_sub rfl rfl (by omega)) ?_
        rw [show 56 - 8 * (j : Int) - 8 = 56 - 8 * ((j + 1 : Nat) : Int) by omega]
        refine RW.op1 rfl (runs_assign rfl) ?_
        refine RW.done ?_
        exact AQ.again (x := (j, vi, Li, I6)) (j + 1, _, _, _) ⟨hle, hst, by rw [be8_take n hj, ← List.append_assoc]; exact hG34, by omega⟩ ⟨rfl, rfl, rfl, rfl, rfl, rfl, trivial⟩ (by dsimp only; omega)
      · have hcb22 := hc22
        try simp only [decide_eq_true_eq, decide_eq_false_iff_not] at hc22
        skip
        refine CW.exit ?_
        refine AQ.past_exit ?_
        refine AQ.past_exit ?_
        refine AQ.block_hit ?_
        refine AQ.block_normal ?_
        refine AQ.block_normal ?_
        refine AQ.next ?_
        -- region 21
        refine CW.region ?_
        refine RW.op1 rfl (runs_add rfl rfl (by omega)) ?_
        refine RW.op1 rfl (runs_move rfl) ?_
        refine RW.done ?_
        have hb8 : (be8 n).take j = be8 n := List.take_of_length_le (by rw [be8_length]; omega)
        rw [hb8] at hg
        exact AQ.again (x := (k, vo, Lo, I5)) (k + 1, _, _, _) ⟨hle, hst.drop1, by rw [encA_take hk, e1]; simpa [enc1] using hg, encOk_take hk hok (by rw [e1]; rfl), by omega⟩ ⟨rfl, rfl, rfl, rfl, trivial⟩ (by dsimp only; omega)
    · have hcb16 := hc16
      try simp only [decide_eq_true_eq, decide_eq_false_iff_not] at hc16
      skip
      refine CW.seq ?_
      -- region 13
      refine CW.region ?_
      refine RW.op1 rfl (runs_eqI rfl rfl) ?_
      refine RW.op1 rfl (runs_assign rfl) ?_
      refine RW.done ?_
      refine AQ.next ?_
      refine CW.cond rfl (fun hc35 => ?_) (fun hc35 => ?_)
      · have hcb35 := hc35
        try simp only [decide_eq_true_eq, decide_eq_false_iff_not] at hc35
        obtain ⟨b, rfl⟩ := refKind_2 hc35
        refine CW.seq ?_
        refine CW.seq ?_
        -- region 14
        refine CW.region ?_
        first
          | refine RW.op1 rfl (runs_fieldAddr0 rfl Try.underlying55 rfl ti9 (by decide)) ?_
          | refine RW.op1 rfl (runs_fieldAddr rfl Try.underlying55 rfl ti9 (by decide)) ?_
        refine RW.op1 rfl (runs_load1 sc9 rfl (hst.cell_own (v := .string b) (k := 0) rfl rfl)) ?_
        refine RW.op1 rfl (runs_lenS Try.underlying9 rfl) ?_
        refine RW.op1 rfl (runs_gtr rfl rfl) ?_
        refine RW.done ?_
        refine AQ.next ?_
        refine CW.cond rfl (fun hc40 => ?_) (fun hc40 => ?_)
        · have hcb40 := hc40
          try simp only [decide_eq_true_eq, decide_eq_false_iff_not] at hc40
          skip
          refine CW.seq ?_
          -- region 15
          refine CW.region ?_
          refine RW.op1 rfl (runs_assign rfl) ?_
          refine RW.op1 rfl (runs_assign rfl) ?_
          refine RW.done ?_
          refine AQ.next ?_
          refine CW.ret ?_
          refine AQ.past_ret ?_
          refine AQ.block_ret ?_
          refine AQ.block_ret ?_
          refine AQ.past_ret ?_
          refine AQ.past_ret ?_
          refine AQ.block_ret ?_
          refine AQ.past_ret ?_
          refine AQ.ret2 rfl rfl rfl ?_
          rw [encOk_no hk (by rw [e1]; simp [enc1Ok]; omega)]
          exact ⟨_, _, hle, rfl, (hst.drop1).sub (List.sublist_append_right _ _), RdL.nil 1⟩
        · have hcb40 := hc40
          try simp only [decide_eq_true_eq, decide_eq_false_iff_not] at hc40
          have hbl := size_toList b
          refine CW.skip ?_
          refine AQ.next ?_
          -- region 16
          refine CW.draw (FSt w0 I5 ((b1, .cells (refRow (.txt b)).toArray 55) :: L)) (.q 0 (.q 1 (.q 2 (.q 3 (.q 4 (.q 7 (.q 8 (.l 5 (.l 6 (.l 9 (.q 10 .nil))))))))))) follows (by kernel_rfl) ⟨_, Imm.le.refl _, hst.draw.sub ((List.sublist_append_right _ _).cons_cons _)⟩ ?_
          replace hst := hst.draw
          refine DRW.q rfl rfl (fun w' hF => runs_move rfl) ?_
          first
            | refine DRW.q rfl rfl (fun w' hF => runs_fieldAddr0 rfl Try.underlying55 rfl ti9 (by decide)) ?_
            | refine DRW.q rfl rfl (fun w' hF => runs_fieldAddr rfl Try.underlying55 rfl ti9 (by decide)) ?_
          refine DRW.q rfl rfl (FSt.load1_own (v := .string b) sc9 rfl (k := 0) rfl rfl) ?_
          refine DRW.q rfl rfl (fun w' hF => runs_lenS Try.underlying9 rfl) ?_
          refine DRW.q rfl rfl (fun w' hF => runs_convB (by rw [Try.underlying3]; rfl) Try.underlying5 rfl) ?_
          first
            | refine DRW.q rfl rfl (fun w' hF => runs_fieldAddr0 rfl Try.underlying55 rfl ti9 (by decide)) ?_
            | refine DRW.q rfl rfl (fun w' hF => runs_fieldAddr rfl Try.underlying55 rfl ti9 (by decide)) ?_
          refine DRW.q rfl rfl (FSt.load1_own (v := .string b) sc9 rfl (k := 0) rfl rfl) ?_
          refine DRW.opE rfl rfl (runs_litB (bs := [115, _]) rfl Try.underlying26 ti5 (by decide) rfl rfl rfl hst) ?_
          rintro u7 w ⟨I7, hI7, hstn, h7⟩
          clear hst
          have hst := hstn
          clear hstn
          replace hle := hle.trans hI7
          refine ⟨FSt.of hst hI7 (by first | exact ((List.sublist_append_right _ _).cons_cons _) | exact List.sublist_append_right _ _), ?_⟩
          refine DRW.opE rfl rfl (runs_appendB Try.underlying26 ti5 rfl rfl (hst.perm List.perm_middle.symm) hg (by assumption) (by simp only [List.length_append, List.length_cons, List.length_nil]; omega)) ?_
          rintro u8 w ⟨Lv8, hstn, hG47⟩
          clear hst
          have hst := hstn
          clear hstn
          refine ⟨FSt.of hst hI7 (by first | exact ((List.sublist_append_right _ _).cons_cons _) | exact List.sublist_append_right _ _), ?_⟩
          replace hst := hst.perm List.perm_middle
          refine DRW.opE rfl rfl (runs_appendS Try.underlying26 ti5 Try.underlying9 rfl rfl (hst.perm List.perm_middle.symm) hG47 (by simp only [List.length_append, List.length_cons, List.length_nil]; omega)) ?_
          rintro u9 w ⟨Lv9, hstn, hG50⟩
          clear hst
          have hst := hstn
          clear hstn
          refine ⟨FSt.of hst hI7 (by first | exact ((List.sublist_append_right _ _).cons_cons _) | exact List.sublist_append_right _ _), ?_⟩
          replace hst := hst.perm List.perm_middle
          refine DRW.q rfl rfl (fun w' hF => runs_assign rfl) ?_
          refine DRW.done ?_
          refine AQ.block_normal ?_
          refine AQ.block_normal ?_
          refine AQ.next ?_
          -- region 21
          refine CW.region ?_
          refine RW.op1 rfl (runs_add rfl rfl (by omega)) ?_
          refine RW.op1 rfl (runs_move rfl) ?_
          refine RW.done ?_
          skip
          exact AQ.again (x := (k, vo, Lo, I5)) (k + 1, _, _, _) ⟨hle, hst.drop1, by rw [encA_take hk, e1]; simpa [enc1] using hG50, encOk_take hk hok (by rw [e1]; simp [enc1Ok]; omega), by omega⟩ ⟨rfl, rfl, rfl, rfl, trivial⟩ (by dsimp only; omega)
      · have hcb35 := hc35
        try simp only [decide_eq_true_eq, decide_eq_false_iff_not] at hc35
        skip
        refine CW.seq ?_
        -- region 17
        refine CW.region ?_
        refine RW.op1 rfl (runs_eqI rfl rfl) ?_
        refine RW.op1 rfl (runs_assign rfl) ?_
        refine RW.done ?_
        refine AQ.next ?_
        refine CW.cond rfl (fun hc51 => ?_) (fun hc51 => ?_)
        · have hcb51 := hc51
          try simp only [decide_eq_true_eq, decide_eq_false_iff_not] at hc51
          obtain ⟨t, rfl⟩ := refKind_3 hc51
          refine CW.seq ?_
          -- region 18
          refine CW.region ?_
          first
            | refine RW.op1 rfl (runs_fieldAddr0 rfl Try.underlying55 rfl ti4 (by decide)) ?_
            | refine RW.op1 rfl (runs_fieldAddr rfl Try.underlying55 rfl ti4 (by decide)) ?_
          refine RW.op1 rfl (runs_load1 sc4 rfl (hst.cell_own (v := .bool t) (k := 0) rfl rfl)) ?_
          refine RW.done ?_
          refine AQ.next ?_
          refine CW.cond rfl (fun hc54 => ?_) (fun hc54 => ?_)
          · have hcb54 := hc54
            try simp only [decide_eq_true_eq, decide_eq_false_iff_not] at hc54
            -- region 19
            refine CW.region ?_
            refine RW.op1 rfl (runs_move rfl) ?_
            refine RW.opE rfl (runs_litB (bs := [116]) rfl Try.underlying26 ti5 (by decide) rfl rfl rfl hst) ?_
            rintro u10 w ⟨J10, hJ10, hstn, hL56⟩
            clear hst
            have hst := hstn
            clear hstn
            replace hle := hle.trans hJ10
            refine RW.opE rfl (runs_appendB Try.underlying26 ti5 rfl rfl (hst.perm List.perm_middle.symm) hg hL56 (by simp only [List.length_append, List.length_cons, List.length_nil]; omega)) ?_
            rintro u11 w ⟨Lv11, hstn, hG57⟩
            clear hst
            have hst := hstn
            clear hstn
            replace hst := hst.perm List.perm_middle
            refine RW.op1 rfl (runs_assign rfl) ?_
            refine RW.done ?_
            refine AQ.block_normal ?_
            refine AQ.block_normal ?_
            refine AQ.next ?_
            -- region 21
            refine CW.region ?_
            refine RW.op1 rfl (runs_add rfl rfl (by omega)) ?_
            refine RW.op1 rfl (runs_move rfl) ?_
            refine RW.done ?_
            subst hcb54
            exact AQ.again (x := (k, vo, Lo, I5)) (k + 1, _, _, _) ⟨hle, hst.drop1, by rw [encA_take hk, e1]; simpa [enc1] using hG57, encOk_take hk hok (by rw [e1]; rfl), by omega⟩ ⟨rfl, rfl, rfl, rfl, trivial⟩ (by dsimp only; omega)
          · have hcb54 := hc54
            try simp only [decide_eq_true_eq, decide_eq_false_iff_not] at hc54
            -- region 20
            refine CW.region ?_
            refine RW.op1 rfl (runs_move rfl) ?_
            refine RW.opE rfl (runs_litB (bs := [102]) rfl Try.underlying26 ti5 (by decide) rfl rfl rfl hst) ?_
            rintro u12 w ⟨J12, hJ12, hstn, hL59⟩
            clear hst
            have hst := hstn
            clear hstn
            replace hle := hle.trans hJ12
            refine RW.opE rfl (runs_appendB Try.underlying26 ti5 rfl rfl (hst.perm List.perm_middle.symm) hg hL59 (by simp only [List.length_append, List.length_cons, List.length_nil]; omega)) ?_
            rintro u13 w ⟨Lv13, hstn, hG60⟩
            clear hst
            have hst := hstn
            clear hstn
            replace hst := hst.perm List.perm_middle
            refine RW.op1 rfl (runs_assign rfl) ?_
            refine RW.done ?_
            refine AQ.block_normal ?_
            refine AQ.block_normal ?_
            refine AQ.next ?_
            -- region 21
            refine CW.region ?_
            refine RW.op1 rfl (runs_add rfl rfl (by omega)) ?_
            refine RW.op1 rfl (runs_move rfl) ?_
            refine RW.done ?_
            subst hcb54
            exact AQ.again (x := (k, vo, Lo, I5)) (k + 1, _, _, _) ⟨hle, hst.drop1, by rw [encA_take hk, e1]; simpa [enc1] using hG60, encOk_take hk hok (by rw [e1]; rfl), by omega⟩ ⟨rfl, rfl, rfl, rfl, trivial⟩ (by dsimp only; omega)
        · have hcb51 := hc51
          try simp only [decide_eq_true_eq, decide_eq_false_iff_not] at hc51
          obtain ⟨u, rfl⟩ := refKind_0 hc16 hc35 hc51
          refine CW.seq ?_
          -- region 6
          refine CW.region ?_
          refine RW.op1 rfl (runs_assign rfl) ?_
          refine RW.op1 rfl (runs_assign rfl) ?_
          refine RW.done ?_
          refine AQ.next ?_
          refine CW.ret ?_
          refine AQ.block_ret ?_
          refine AQ.block_ret ?_
          refine AQ.past_ret ?_
          refine AQ.past_ret ?_
          refine AQ.block_ret ?_
          refine AQ.past_ret ?_
          refine AQ.ret2 rfl rfl rfl ?_
          rw [encOk_no hk (by rw [e1]; rfl)]
          exact ⟨_, _, hle, rfl, (hst.drop1).sub (List.sublist_append_right _ _), RdL.nil 1⟩
  · have hcb11 := hc11
    try simp only [decide_eq_true_eq, decide_eq_false_iff_not] at hc11
    skip
    refine CW.exit ?_
    refine AQ.past_exit ?_
    refine AQ.past_exit ?_
    refine AQ.block_hit ?_
    refine AQ.next ?_
    refine CW.seq ?_
    -- region 22
    refine CW.region ?_
    refine RW.op1 rfl (runs_move rfl) ?_
    refine RW.op1 rfl (runs_assign rfl) ?_
    refine RW.op1 rfl (runs_assign rfl) ?_
    refine RW.done ?_
    refine AQ.next ?_
    refine CW.ret ?_
    refine AQ.ret2 rfl rfl rfl ?_
    have hkl : av.take k = av := List.take_of_length_le (by omega)
    rw [hkl] at hok hg
    rw [hok]
    obtain ⟨I', hI, hst, hr⟩ := GrowB.freeze hg hst
    exact ⟨I', _, hle.trans hI, rfl, hst, hr⟩
end Go.Proofs.YtoegloebnnjflaaX
