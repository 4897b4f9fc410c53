/- The document's tags and spans: the same as the program's. -/
import Derived.Test.YtjlkidokkaibiaaDoorT
import Derived.Test.YtjlkidokkaibiaaDoorJ6
namespace Go.Proofs.YtjlkidokkaibiaaDoorX
set_option linter.unusedVariables false
set_option linter.unusedSimpArgs false
open Go Go.RowKit Go.Proofs

set_option maxRecDepth 100000 in
set_option maxHeartbeats 1000000 in
theorem refTag_spec {w0 w : World} {I : Imm} {L : Own} (hst : St w0 w I L) {v : Value} {hs : List HRow} (hv : RdH I v hs) (hok : ∀ r ∈ hs, r.1.size ≤ 9223372036854775807) (hsz : (getH etagS hs).1.size ≤ 9223372036854775807) (hlen : hs.length ≤ 1000000) :
    Calls Tryd.prog 16 #[v] w fun e w' => ∃ I', Imm.le I I' ∧ e = .returned (.string (tagR hs)) ∧ St w0 w' I' L := by
  refine enter Tryd.func16 rfl (N := 56) rfl rfl ?_
  simp only [List.zipIdx_cons, List.zipIdx_nil, List.map_cons, List.map_nil, Nat.zero_add, Nat.reduceAdd]
  have hle := Imm.le.refl I
  refine CW.seq ?_
  -- region 0
  refine CW.region ?_
  refine RW.op1 rfl (runs_assign rfl) ?_
  refine RW.done ?_
  refine AQ.next ?_
  refine CW.seq ?_
  -- region 1
  refine CW.region ?_
  refine RW.op1 rfl (runs_move rfl) ?_
  refine RW.call rfl call32 rfl rfl (refGet_spec hst etagS (by decide) hv hok hlen) ?_
  rintro e w ⟨I1, hI1, rfl, hstn⟩
  clear hst
  have hst := hstn
  clear hstn
  obtain ⟨s, hs0⟩ : ∃ s, (getH etagS hs).1 = s := ⟨_, rfl⟩
  have h0 : tagR hs = if strongB s.toList = true then s else ⟨#[]⟩ := by unfold tagR; rw [hs0]
  rw [hs0] at hsz ⊢
  have hz := size_toList s
  replace hle := hle.trans hI1
  refine ⟨_, rfl, ?_⟩
  refine RW.op1 rfl (runs_move rfl) ?_
  refine RW.op1 rfl (runs_extract rfl rfl) ?_
  refine RW.op1 rfl (runs_extract rfl rfl) ?_
  refine RW.op1 rfl (runs_assign rfl) ?_
  refine RW.op1 rfl (runs_assign rfl) ?_
  refine RW.done ?_
  refine AQ.next ?_
  refine CW.seq ?_
  refine CW.seq ?_
  -- region 2
  refine CW.cut Unit (fun _ w => St w0 w I1 L) (fun _ => [(3, .string s), (31, .bool (decide (¬ endsQ s.toList)))]) ?_ ?_
  · -- region 2
    refine CW.region ?_
    refine RW.op1 rfl (runs_move rfl) ?_
    refine RW.op1 rfl (runs_lenS Tryd.underlying9 rfl) ?_
    refine RW.op1 rfl (runs_lss rfl rfl) ?_
    refine RW.op1 rfl (runs_move rfl) ?_
    refine RW.split (t := 14) rfl (fun hb14 => ?_) (fun hb14 => ?_)
    · have hb14p := hb14
      try simp only [decide_eq_true_eq, decide_eq_false_iff_not] at hb14p
      refine RW.off_guard rfl rfl rfl rfl hb14 ?_
      refine RW.off_guard rfl rfl rfl rfl hb14 ?_
      refine RW.off_guard rfl rfl rfl rfl hb14 ?_
      refine RW.op1 rfl (runs_pick_true rfl hb14 rfl) ?_
      refine RW.op1 rfl (runs_move rfl) ?_
      refine RW.off_guard rfl rfl rfl rfl rfl ?_
      refine RW.off_guard rfl rfl rfl rfl rfl ?_
      refine RW.off_guard rfl rfl rfl rfl rfl ?_
      refine RW.op1 rfl (runs_pick_true rfl rfl rfl) ?_
      refine RW.op1 rfl (runs_move rfl) ?_
      refine RW.off_guard rfl rfl rfl rfl rfl ?_
      refine RW.off_guard rfl rfl rfl rfl rfl ?_
      refine RW.off_guard rfl rfl rfl rfl rfl ?_
      refine RW.off_guard rfl rfl rfl rfl rfl ?_
      refine RW.off_guard rfl rfl rfl rfl rfl ?_
      refine RW.off_guard rfl rfl rfl rfl rfl ?_
      refine RW.op1 rfl (runs_pick_true rfl rfl rfl) ?_
      refine RW.done ?_
      exact AQ.meet () hst ⟨rfl, boolN (by unfold endsQ; simp only [decide_eq_true_eq, true_iff, Bool.false_eq_true, false_iff]; omega), trivial⟩
    · have hb14p := hb14
      try simp only [decide_eq_true_eq, decide_eq_false_iff_not] at hb14p
      refine RW.on_guard rfl rfl rfl rfl hb14 ?_
      refine RW.op1 rfl (runs_move rfl) ?_
      refine RW.on_guard rfl rfl rfl rfl hb14 ?_
      refine RW.op1 rfl (runs_lenS Tryd.underlying9 rfl) ?_
      refine RW.on_guard rfl rfl rfl rfl hb14 ?_
      refine RW.op1 rfl (runs_gtr rfl rfl) ?_
      refine RW.op1 rfl (runs_pick_false rfl hb14 rfl) ?_
      refine RW.op1 rfl (runs_move rfl) ?_
      refine RW.split (t := 19) rfl (fun hb19 => ?_) (fun hb19 => ?_)
      · have hb19p := hb19
        try simp only [decide_eq_true_eq, decide_eq_false_iff_not] at hb19p
        refine RW.off_guard rfl rfl rfl rfl hb19 ?_
        refine RW.off_guard rfl rfl rfl rfl hb19 ?_
        refine RW.off_guard rfl rfl rfl rfl hb19 ?_
        refine RW.op1 rfl (runs_pick_true rfl hb19 rfl) ?_
        refine RW.op1 rfl (runs_move rfl) ?_
        refine RW.off_guard rfl rfl rfl rfl rfl ?_
        refine RW.off_guard rfl rfl rfl rfl rfl ?_
        refine RW.off_guard rfl rfl rfl rfl rfl ?_
        refine RW.off_guard rfl rfl rfl rfl rfl ?_
        refine RW.off_guard rfl rfl rfl rfl rfl ?_
        refine RW.off_guard rfl rfl rfl rfl rfl ?_
        refine RW.op1 rfl (runs_pick_true rfl rfl rfl) ?_
        refine RW.done ?_
        exact AQ.meet () hst ⟨rfl, boolN (by unfold endsQ; simp only [decide_eq_true_eq, true_iff, Bool.false_eq_true, false_iff]; omega), trivial⟩
      · have hb19p := hb19
        try simp only [decide_eq_true_eq, decide_eq_false_iff_not] at hb19p
        refine RW.on_guard rfl rfl rfl rfl hb19 ?_
        refine RW.op1 rfl (runs_move rfl) ?_
        refine RW.on_guard rfl rfl rfl rfl hb19 ?_
        refine RW.op1 rfl (runs_indexL Tryd.underlying9 rfl rfl (by omega) (by omega)) ?_
        rw [show ((0 : Int)).toNat = 0 from rfl]
        refine RW.on_guard rfl rfl rfl rfl hb19 ?_
        refine RW.op1 rfl (runs_neI rfl rfl) ?_
        refine RW.op1 rfl (runs_pick_false rfl hb19 rfl) ?_
        refine RW.op1 rfl (runs_move rfl) ?_
        refine RW.split (t := 24) rfl (fun hb24 => ?_) (fun hb24 => ?_)
        · have hb24p := hb24
          try simp only [decide_eq_true_eq, decide_eq_false_iff_not] at hb24p
          refine RW.off_guard rfl rfl rfl rfl hb24 ?_
          refine RW.off_guard rfl rfl rfl rfl hb24 ?_
          refine RW.off_guard rfl rfl rfl rfl hb24 ?_
          refine RW.off_guard rfl rfl rfl rfl hb24 ?_
          refine RW.off_guard rfl rfl rfl rfl hb24 ?_
          refine RW.off_guard rfl rfl rfl rfl hb24 ?_
          refine RW.op1 rfl (runs_pick_true rfl hb24 rfl) ?_
          refine RW.done ?_
          exact AQ.meet () hst ⟨rfl, boolN (by unfold endsQ; simp only [decide_eq_true_eq, true_iff, Bool.false_eq_true, false_iff]; omega), trivial⟩
        · have hb24p := hb24
          try simp only [decide_eq_true_eq, decide_eq_false_iff_not] at hb24p
          refine RW.on_guard rfl rfl rfl rfl hb24 ?_
          refine RW.op1 rfl (runs_move rfl) ?_
          refine RW.on_guard rfl rfl rfl rfl hb24 ?_
          refine RW.op1 rfl (runs_move rfl) ?_
          refine RW.on_guard rfl rfl rfl rfl hb24 ?_
          refine RW.op1 rfl (runs_lenS Tryd.underlying9 rfl) ?_
          refine RW.on_guard rfl rfl rfl rfl hb24 ?_
          refine RW.op1 rfl (runs_sub rfl rfl (by omega)) ?_
          refine RW.on_guard rfl rfl rfl rfl hb24 ?_
          refine RW.op1 rfl (runs_indexL Tryd.underlying9 rfl rfl (by omega) (by omega)) ?_
          rw [show (((s.size : Nat) : Int) - 1).toNat = s.toList.length - 1 by omega]
          refine RW.on_guard rfl rfl rfl rfl hb24 ?_
          refine RW.op1 rfl (runs_neI rfl rfl) ?_
          refine RW.op1 rfl (runs_pick_false rfl hb24 rfl) ?_
          refine RW.done ?_
          exact AQ.meet () hst ⟨rfl, boolN (by unfold endsQ; simp only [decide_eq_true_eq, true_iff, Bool.false_eq_true, false_iff]; omega), trivial⟩
  · rintro _ w hstn
    clear hst
    have hst := hstn
    clear hstn
    refine AQ.next ?_
    refine CW.cond rfl (fun hc31 => ?_) (fun hc31 => ?_)
    · have hcb31 := hc31
      try simp only [decide_eq_true_eq, decide_eq_false_iff_not] at hc31
      skip
      refine CW.seq ?_
      -- region 3
      refine CW.region ?_
      refine RW.op1 rfl (runs_assign rfl) ?_
      refine RW.done ?_
      refine AQ.next ?_
      refine CW.ret ?_
      refine AQ.past_ret ?_
      refine AQ.ret1 rfl rfl ?_
      have h1 : strongB s.toList = false := by unfold strongB; rw [decide_eq_false (by simpa using hc31), Bool.false_and]
      rw [h0, h1]
      exact ⟨_, hle, rfl, hst⟩
    · have hcb31 := hc31
      try simp only [decide_eq_true_eq, decide_eq_false_iff_not] at hc31
      have hq : endsQ s.toList := by simpa using hc31
      have hq2 := hq
      unfold endsQ at hq2
      have hml : (midL s.toList).length = s.toList.length - 2 := by unfold midL; rw [List.length_take, List.length_drop]; omega
      refine CW.skip ?_
      refine AQ.next ?_
      refine CW.seq ?_
      refine CW.seq ?_
      -- region 4
      refine CW.region ?_
      refine RW.op1 rfl (runs_assign rfl) ?_
      refine RW.done ?_
      refine AQ.next ?_
      refine CW.block ?_
      -- loop 1
      refine CW.loop Nat (fun k w => St w0 w I1 L ∧ k ≤ (midL s.toList).length ∧ ∀ x ∈ (midL s.toList).take k, tagC x = true) (fun k => [(3, .string s), (5, .int .i64 ((k : Int) + 1))]) (fun k => (midL s.toList).length - k) ⟨0, ⟨hst, Nat.zero_le _, by simp⟩, ⟨rfl, rfl, trivial⟩⟩ ?_
      rintro k w ⟨hstn, hk, hall⟩
      clear hst
      have hst := hstn
      clear hstn
      refine CW.seq ?_
      refine CW.seq ?_
      -- region 5
      refine CW.region ?_
      refine RW.op1 rfl (runs_move rfl) ?_
      refine RW.op1 rfl (runs_move rfl) ?_
      refine RW.op1 rfl (runs_lenS Tryd.underlying9 rfl) ?_
      refine RW.op1 rfl (runs_sub rfl rfl (by omega)) ?_
      refine RW.op1 rfl (runs_lss rfl rfl) ?_
      refine RW.done ?_
      refine AQ.next ?_
      refine CW.cond rfl (fun hc36 => ?_) (fun hc36 => ?_)
      · have hcb36 := hc36
        try simp only [decide_eq_true_eq, decide_eq_false_iff_not] at hc36
        have hk1 : k < (midL s.toList).length := by omega
        obtain ⟨c, hc⟩ : ∃ c, (midL s.toList)[k] = c := ⟨_, rfl⟩
        have hgd : s.toList.getD (k + 1) 0 = c := by
          rw [get_getD (by omega), ← hc]
          simp only [midL, List.getElem_take, List.getElem_drop]
          congr 1
          omega
        refine CW.skip ?_
        refine AQ.next ?_
        refine CW.seq ?_
        refine CW.block ?_
        refine CW.seq ?_
        -- region 7
        refine CW.cut Unit (fun _ w => St w0 w I1 L) (fun _ => [(3, .string s), (5, .int .i64 ((k : Int) + 1)), (54, .bool (decide (¬ (33 ≤ c.toNat ∧ c.toNat ≤ 126 ∧ c.toNat ≠ 34))))]) ?_ ?_
        · -- region 7
          refine CW.region ?_
          refine RW.op1 rfl (runs_move rfl) ?_
          refine RW.op1 rfl (runs_move rfl) ?_
          refine RW.op1 rfl (runs_indexL Tryd.underlying9 rfl rfl (by omega) (by omega)) ?_
          rw [show ((k : Int) + 1).toNat = k + 1 by omega, hgd]
          refine RW.op1 rfl (runs_lss rfl rfl) ?_
          refine RW.op1 rfl (runs_move rfl) ?_
          refine RW.split (t := 43) rfl (fun hb43 => ?_) (fun hb43 => ?_)
          · have hb43p := hb43
            try simp only [decide_eq_true_eq, decide_eq_false_iff_not] at hb43p
            refine RW.off_guard rfl rfl rfl rfl hb43 ?_
            refine RW.off_guard rfl rfl rfl rfl hb43 ?_
            refine RW.off_guard rfl rfl rfl rfl hb43 ?_
            refine RW.off_guard rfl rfl rfl rfl hb43 ?_
            refine RW.op1 rfl (runs_pick_true rfl hb43 rfl) ?_
            refine RW.op1 rfl (runs_move rfl) ?_
            refine RW.off_guard rfl rfl rfl rfl rfl ?_
            refine RW.off_guard rfl rfl rfl rfl rfl ?_
            refine RW.off_guard rfl rfl rfl rfl rfl ?_
            refine RW.off_guard rfl rfl rfl rfl rfl ?_
            refine RW.op1 rfl (runs_pick_true rfl rfl rfl) ?_
            refine RW.done ?_
            exact AQ.meet () hst ⟨rfl, rfl, boolN (by simp only [decide_eq_true_eq, true_iff, Bool.false_eq_true, false_iff]; omega), trivial⟩
          · have hb43p := hb43
            try simp only [decide_eq_true_eq, decide_eq_false_iff_not] at hb43p
            refine RW.on_guard rfl rfl rfl rfl hb43 ?_
            refine RW.op1 rfl (runs_move rfl) ?_
            refine RW.on_guard rfl rfl rfl rfl hb43 ?_
            refine RW.op1 rfl (runs_move rfl) ?_
            refine RW.on_guard rfl rfl rfl rfl hb43 ?_
            refine RW.op1 rfl (runs_indexL Tryd.underlying9 rfl rfl (by omega) (by omega)) ?_
            rw [show ((k : Int) + 1).toNat = k + 1 by omega, hgd]
            refine RW.on_guard rfl rfl rfl rfl hb43 ?_
            refine RW.op1 rfl (runs_eqI rfl rfl) ?_
            refine RW.op1 rfl (runs_pick_false rfl hb43 rfl) ?_
            refine RW.op1 rfl (runs_move rfl) ?_
            refine RW.split (t := 49) rfl (fun hb49 => ?_) (fun hb49 => ?_)
            · have hb49p := hb49
              try simp only [decide_eq_true_eq, decide_eq_false_iff_not] at hb49p
              refine RW.off_guard rfl rfl rfl rfl hb49 ?_
              refine RW.off_guard rfl rfl rfl rfl hb49 ?_
              refine RW.off_guard rfl rfl rfl rfl hb49 ?_
              refine RW.off_guard rfl rfl rfl rfl hb49 ?_
              refine RW.op1 rfl (runs_pick_true rfl hb49 rfl) ?_
              refine RW.done ?_
              exact AQ.meet () hst ⟨rfl, rfl, boolN (by simp only [decide_eq_true_eq, true_iff, Bool.false_eq_true, false_iff]; omega), trivial⟩
            · have hb49p := hb49
              try simp only [decide_eq_true_eq, decide_eq_false_iff_not] at hb49p
              refine RW.on_guard rfl rfl rfl rfl hb49 ?_
              refine RW.op1 rfl (runs_move rfl) ?_
              refine RW.on_guard rfl rfl rfl rfl hb49 ?_
              refine RW.op1 rfl (runs_move rfl) ?_
              refine RW.on_guard rfl rfl rfl rfl hb49 ?_
              refine RW.op1 rfl (runs_indexL Tryd.underlying9 rfl rfl (by omega) (by omega)) ?_
              rw [show ((k : Int) + 1).toNat = k + 1 by omega, hgd]
              refine RW.on_guard rfl rfl rfl rfl hb49 ?_
              refine RW.op1 rfl (runs_gtr rfl rfl) ?_
              refine RW.op1 rfl (runs_pick_false rfl hb49 rfl) ?_
              refine RW.done ?_
              exact AQ.meet () hst ⟨rfl, rfl, boolN (by simp only [decide_eq_true_eq, true_iff, Bool.false_eq_true, false_iff]; omega), trivial⟩
        · rintro _ w hstn
          clear hst
          have hst := hstn
          clear hstn
          refine AQ.next ?_
          refine CW.cond rfl (fun hc54 => ?_) (fun hc54 => ?_)
          · have hcb54 := hc54
            try simp only [decide_eq_true_eq, decide_eq_false_iff_not] at hc54
            refine CW.seq ?_
            -- region 8
            refine CW.region ?_
            refine RW.op1 rfl (runs_assign rfl) ?_
            refine RW.done ?_
            refine AQ.next ?_
            refine CW.ret ?_
            refine AQ.block_ret ?_
            refine AQ.past_ret ?_
            refine AQ.past_ret ?_
            refine AQ.block_ret ?_
            refine AQ.past_ret ?_
            refine AQ.ret1 rfl rfl ?_
            have h1 : strongB s.toList = false := by
              unfold strongB
              rw [show (midL s.toList).all tagC = false from by
                rw [List.all_eq_false]
                exact ⟨_, List.getElem_mem hk1, by rw [hc]; unfold tagC; simpa using hc54⟩, Bool.and_false]
            rw [h0, h1]
            exact ⟨_, hle, rfl, hst⟩
          · have hcb54 := hc54
            try simp only [decide_eq_true_eq, decide_eq_false_iff_not] at hc54
            refine CW.skip ?_
            refine AQ.block_normal ?_
            refine AQ.next ?_
            -- region 6
            refine CW.region ?_
            refine RW.op1 rfl (runs_move rfl) ?_
            refine RW.op1 rfl (runs_add rfl rfl (by omega)) ?_
            refine RW.op1 rfl (runs_assign rfl) ?_
            refine RW.done ?_
            exact AQ.again (x := k) (k + 1) ⟨hst, by omega, takeE_more hall hk1 (by rw [hc]; unfold tagC; simpa using hc54)⟩ ⟨rfl, rfl, trivial⟩ (by omega)
      · have hcb36 := hc36
        try simp only [decide_eq_true_eq, decide_eq_false_iff_not] at hc36
        skip
        refine CW.exit ?_
        refine AQ.past_exit ?_
        refine AQ.past_exit ?_
        refine AQ.block_hit ?_
        refine AQ.next ?_
        refine CW.seq ?_
        -- region 9
        refine CW.region ?_
        refine RW.op1 rfl (runs_move rfl) ?_
        refine RW.op1 rfl (runs_assign rfl) ?_
        refine RW.done ?_
        refine AQ.next ?_
        refine CW.ret ?_
        refine AQ.ret1 rfl rfl ?_
        have h1 : strongB s.toList = true := by
          unfold strongB
          rw [decide_eq_true hq, Bool.true_and, List.all_eq_true]
          rw [List.take_of_length_le (by omega)] at hall
          exact hall
        rw [h0, h1]
        exact ⟨_, hle, rfl, hst⟩
theorem idxB_cons (b : UInt8) (r : List UInt8) (c : UInt8) : idxB (b :: r) c = if b == c then 0 else if idxB r c == -1 then -1 else idxB r c + 1 := rfl
theorem idxB_no : ∀ {l : List UInt8} {c : UInt8}, c ∉ l → idxB l c = -1
  | [], _, _ => rfl
  | b :: r, c, h => by
    rw [idxB_cons, idxB_no (fun hm => h (List.mem_cons_of_mem _ hm)), if_neg (by intro hb; exact h (by rw [beq_iff_eq.1 hb]; exact List.mem_cons_self ..))]
    rfl
theorem idxB_at : ∀ {a b : List UInt8} {c : UInt8}, c ∉ a → idxB (a ++ c :: b) c = a.length
  | [], b, c, _ => by rw [List.nil_append, idxB_cons, if_pos (by simp)]; rfl
  | x :: r, b, c, h => by
    have ih := idxB_at (a := r) (b := b) (c := c) (fun hm => h (List.mem_cons_of_mem _ hm))
    rw [List.cons_append, idxB_cons, ih, if_neg (by intro hb; exact h (by rw [beq_iff_eq.1 hb]; exact List.mem_cons_self ..)), if_neg (by rw [beq_iff_eq]; omega), List.length_cons]
    rfl
theorem cutL_no {l : List UInt8} {c : UInt8} (h : c ∉ l) : cutL l c = (l, [], false) := by
  unfold cutL
  rw [idxB_no h, if_neg (by decide)]
theorem cutL_at {a b : List UInt8} {c : UInt8} (h : c ∉ a) : cutL (a ++ c :: b) c = (a, b, true) := by
  unfold cutL
  rw [idxB_at h, if_pos (by omega), Int.toNat_natCast, List.take_left, show a.length + 1 = (a ++ [c]).length by simp, show a ++ c :: b = (a ++ [c]) ++ b by simp, List.drop_left]
theorem only1 {a : List UInt8} {c : UInt8} (h : c ∉ a) : ∀ x ∈ a, [c].contains x = false := by
  intro x hx
  rw [List.contains_eq_mem, decide_eq_false_iff_not, List.mem_singleton]
  rintro rfl
  exact h hx
theorem until1_no {l : List UInt8} {c : UInt8} (h : c ∉ l) : untilL [c] l = (l, []) := untilL_no (only1 h)
theorem until1_at {a b : List UInt8} {c : UInt8} (h : c ∉ a) : untilL [c] (a ++ c :: b) = (a, c :: b) := untilL_at (only1 h) (by simp)
def Z3 : Int × Int × Int × Bool := (0, 0, 0, false)
def span3 (d e f : Option Int) : Int × Int × Int × Bool := if d.isSome = true ∧ e.isSome = true ∧ f.isSome = true ∧ d.getD 0 ≤ e.getD 0 ∧ e.getD 0 < f.getD 0 then (d.getD 0, e.getD 0, f.getD 0, true) else Z3
def refSpanR (s : ByteArray) : Int × Int × Int × Bool :=
  if preS s bytesS = true then
    let x := untilL [45] (s.toList.drop 6)
    if x.2 = [] then Z3 else
    let y := untilL [47] (x.2.drop 1)
    if y.2 = [] then Z3 else span3 (numberR x.1) (numberR y.1) (numberR (y.2.drop 1))
  else Z3
theorem numberC_bad {l : List UInt8} {c : UInt8} (h : c ∈ l) (hc : isDigit c = false) : numberR l = none := by
  unfold numberR
  split
  · rfl
  · rw [if_neg (by intro ha; rw [List.all_eq_true] at ha; have := ha c h; rw [hc] at this; cases this)]
theorem span_of (s : ByteArray) : spanR s = if preS s bytesS = true then
    (if (cutL (s.toList.drop 6) 47).2.2 = true ∧ (cutL (cutL (s.toList.drop 6) 47).1 45).2.2 = true then
      span3 (numberR (cutL (cutL (s.toList.drop 6) 47).1 45).1) (numberR (cutL (cutL (s.toList.drop 6) 47).1 45).2.1) (numberR (cutL (s.toList.drop 6) 47).2.1) else Z3) else Z3 := by
  have hr : preS s bytesS = true → (restR s).toList = s.toList.drop 6 := fun hp => by
    unfold restR
    rw [if_pos hp, extract_list, show bytesS.size = 6 from rfl, List.take_of_length_le (by rw [List.length_drop, size_toList]; omega)]
  unfold spanR
  by_cases h : SpanOk (spanP s)
  · rw [if_pos h]
    unfold SpanOk spanP at h
    dsimp only at h
    rw [hr h.1] at h
    obtain ⟨h1, h2, h3, h4⟩ := h
    rw [if_pos h1, if_pos ⟨h2, h3⟩]
    unfold span3
    rw [if_pos h4]
    unfold spanP
    dsimp only
    rw [hr h1]
  · rw [if_neg h]
    unfold SpanOk spanP at h
    dsimp only at h
    by_cases hp : preS s bytesS = true
    · rw [hr hp] at h
      rw [if_pos hp]
      by_cases hbc : (cutL (s.toList.drop 6) 47).2.2 = true ∧ (cutL (cutL (s.toList.drop 6) 47).1 45).2.2 = true
      · rw [if_pos hbc]
        unfold span3
        rw [if_neg (fun h' => h ⟨hp, hbc.1, hbc.2, h'⟩)]
        rfl
      · rw [if_neg hbc]
        rfl
    · rw [if_neg hp]
      rfl
theorem span_law (s : ByteArray) : refSpanR s = spanR s := by
  rw [span_of]
  unfold refSpanR
  by_cases hp : preS s bytesS = true
  · rw [if_pos hp, if_pos hp]
    generalize s.toList.drop 6 = r
    dsimp only
    by_cases h45 : (45 : UInt8) ∈ r
    · obtain ⟨a, q, rfl, ha⟩ := List.eq_append_cons_of_mem h45
      rw [until1_at ha]
      dsimp only
      rw [if_neg (by simp), List.drop_succ_cons, List.drop_zero]
      by_cases h47 : (47 : UInt8) ∈ q
      · obtain ⟨b, t, rfl, hb⟩ := List.eq_append_cons_of_mem h47
        rw [until1_at hb]
        dsimp only
        rw [if_neg (by simp), List.drop_succ_cons, List.drop_zero]
        by_cases hA : (47 : UInt8) ∈ a
        · rw [numberC_bad hA (by decide)]
          obtain ⟨a1, a2, rfl, hb1⟩ := List.eq_append_cons_of_mem hA
          rw [List.append_assoc, List.cons_append, cutL_at hb1]
          dsimp only
          rw [cutL_no (fun h => ha (by simp [h])), if_neg (by simp)]
          unfold span3
          rw [if_neg (by simp)]
        · have e : a ++ 45 :: (b ++ 47 :: t) = (a ++ 45 :: b) ++ 47 :: t := by simp
          rw [e, cutL_at (by simp [hA, hb])]
          dsimp only
          rw [cutL_at ha]
          simp
      · rw [until1_no h47]
        dsimp only
        rw [if_pos rfl]
        by_cases hA : (47 : UInt8) ∈ a
        · obtain ⟨a1, a2, rfl, hb1⟩ := List.eq_append_cons_of_mem hA
          rw [List.append_assoc, List.cons_append, cutL_at hb1]
          dsimp only
          rw [cutL_no (fun h => ha (by simp [h])), if_neg (by simp)]
        · rw [cutL_no (by simp [hA, h47]), if_neg (by simp)]
    · rw [until1_no h45]
      dsimp only
      rw [if_pos rfl]
      by_cases h47 : (47 : UInt8) ∈ r
      · obtain ⟨a1, a2, rfl, hb1⟩ := List.eq_append_cons_of_mem h47
        rw [cutL_at hb1]
        dsimp only
        rw [cutL_no (fun h => h45 (by simp [h])), if_neg (by simp)]
      · rw [cutL_no h47, if_neg (by simp)]
  · rw [if_neg hp, if_neg hp]
end Go.Proofs.YtjlkidokkaibiaaDoorX
