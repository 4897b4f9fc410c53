/- Strong tags: what these come to. -/
import Derived.Test.YtjlkidokkaibiaaDoorT
import Derived.Test.YtjlkidokkaibiaaDoorJ1
import Derived.Test.YtjlkidokkaibiaaDoorH2
namespace Go.Proofs.YtjlkidokkaibiaaDoorX
set_option linter.unusedVariables false
set_option linter.unusedSimpArgs false
open Go Go.RowKit Go.Proofs

theorem takeE_more {α : Type} {p : α → Prop} {xs : List α} {k : Nat} (h : ∀ x ∈ xs.take k, p x) (hk : k < xs.length) (hp : p xs[k]) : ∀ x ∈ xs.take (k + 1), p x := by
  intro x hx
  rw [List.take_add_one, List.getElem?_eq_getElem hk] at hx
  rcases List.mem_append.1 hx with hx | hx
  · exact h x hx
  · simp at hx
    subst hx
    exact hp
theorem get_getD {l : List UInt8} {k : Nat} (h : k < l.length) : l.getD k 0 = l[k] := by
  rw [List.getD_eq_getElem?_getD, List.getElem?_eq_getElem h]
  rfl
def tagC (c : UInt8) : Bool := decide (33 ≤ c.toNat ∧ c.toNat ≤ 126 ∧ c.toNat ≠ 34)
def midL (l : List UInt8) : List UInt8 := (l.drop 1).take (l.length - 2)
def endsQ (l : List UInt8) : Prop := 3 ≤ l.length ∧ l.length ≤ 12 ∧ (l.getD 0 0).toNat = 34 ∧ (l.getD (l.length - 1) 0).toNat = 34
instance (l : List UInt8) : Decidable (endsQ l) := by unfold endsQ; infer_instance
def strongB (l : List UInt8) : Bool := decide (endsQ l) && (midL l).all tagC
set_option maxRecDepth 100000 in
set_option maxHeartbeats 1000000 in
theorem strong_spec {w0 w : World} {I : Imm} {L : Own} (hst : St w0 w I L) (s : ByteArray) (hs : s.size ≤ 9223372036854775807) :
    Calls Tryd.prog 23 #[.string s] w fun e w' => e = .returned (.bool (strongB s.toList)) ∧ St w0 w' I L := by
  have hsz := size_toList s
  refine enter Tryd.func23 rfl (N := 48) rfl rfl ?_
  simp only [List.zipIdx_cons, List.zipIdx_nil, List.map_cons, List.map_nil, Nat.zero_add, Nat.reduceAdd]
  have hle := Imm.le.refl I
  refine CW.seq ?_
  -- region 0
  refine CW.region ?_
  refine RW.op1 rfl (runs_assign rfl) ?_
  refine RW.done ?_
  refine AQ.next ?_
  refine CW.seq ?_
  refine CW.seq ?_
  -- region 1
  refine CW.cut Unit (fun _ w => St w0 w I L) (fun _ => [(0, .string s), (25, .bool (decide (¬ endsQ s.toList)))]) ?_ ?_
  · -- region 1
    refine CW.region ?_
    refine RW.op1 rfl (runs_move rfl) ?_
    refine RW.op1 rfl (runs_lenS Tryd.underlying9 rfl) ?_
    refine RW.op1 rfl (runs_lss rfl rfl) ?_
    refine RW.op1 rfl (runs_move rfl) ?_
    refine RW.split (t := 8) rfl (fun hb8 => ?_) (fun hb8 => ?_)
    · have hb8p := hb8
      try simp only [decide_eq_true_eq, decide_eq_false_iff_not] at hb8p
      refine RW.off_guard rfl rfl rfl rfl hb8 ?_
      refine RW.off_guard rfl rfl rfl rfl hb8 ?_
      refine RW.off_guard rfl rfl rfl rfl hb8 ?_
      refine RW.op1 rfl (runs_pick_true rfl hb8 rfl) ?_
      refine RW.op1 rfl (runs_move rfl) ?_
      refine RW.off_guard rfl rfl rfl rfl rfl ?_
      refine RW.off_guard rfl rfl rfl rfl rfl ?_
      refine RW.off_guard rfl rfl rfl rfl rfl ?_
      refine RW.op1 rfl (runs_pick_true rfl rfl rfl) ?_
      refine RW.op1 rfl (runs_move rfl) ?_
      refine RW.off_guard rfl rfl rfl rfl rfl ?_
      refine RW.off_guard rfl rfl rfl rfl rfl ?_
      refine RW.off_guard rfl rfl rfl rfl rfl ?_
      refine RW.off_guard rfl rfl rfl rfl rfl ?_
      refine RW.off_guard rfl rfl rfl rfl rfl ?_
      refine RW.off_guard rfl rfl rfl rfl rfl ?_
      refine RW.op1 rfl (runs_pick_true rfl rfl rfl) ?_
      refine RW.done ?_
      exact AQ.meet () hst ⟨rfl, boolN (by unfold endsQ; simp only [decide_eq_true_eq, true_iff, Bool.false_eq_true, false_iff]; omega), trivial⟩
    · have hb8p := hb8
      try simp only [decide_eq_true_eq, decide_eq_false_iff_not] at hb8p
      refine RW.on_guard rfl rfl rfl rfl hb8 ?_
      refine RW.op1 rfl (runs_move rfl) ?_
      refine RW.on_guard rfl rfl rfl rfl hb8 ?_
      refine RW.op1 rfl (runs_lenS Tryd.underlying9 rfl) ?_
      refine RW.on_guard rfl rfl rfl rfl hb8 ?_
      refine RW.op1 rfl (runs_gtr rfl rfl) ?_
      refine RW.op1 rfl (runs_pick_false rfl hb8 rfl) ?_
      refine RW.op1 rfl (runs_move rfl) ?_
      refine RW.split (t := 13) rfl (fun hb13 => ?_) (fun hb13 => ?_)
      · have hb13p := hb13
        try simp only [decide_eq_true_eq, decide_eq_false_iff_not] at hb13p
        refine RW.off_guard rfl rfl rfl rfl hb13 ?_
        refine RW.off_guard rfl rfl rfl rfl hb13 ?_
        refine RW.off_guard rfl rfl rfl rfl hb13 ?_
        refine RW.op1 rfl (runs_pick_true rfl hb13 rfl) ?_
        refine RW.op1 rfl (runs_move rfl) ?_
        refine RW.off_guard rfl rfl rfl rfl rfl ?_
        refine RW.off_guard rfl rfl rfl rfl rfl ?_
        refine RW.off_guard rfl rfl rfl rfl rfl ?_
        refine RW.off_guard rfl rfl rfl rfl rfl ?_
        refine RW.off_guard rfl rfl rfl rfl rfl ?_
        refine RW.off_guard rfl rfl rfl rfl rfl ?_
        refine RW.op1 rfl (runs_pick_true rfl rfl rfl) ?_
        refine RW.done ?_
        exact AQ.meet () hst ⟨rfl, boolN (by unfold endsQ; simp only [decide_eq_true_eq, true_iff, Bool.false_eq_true, false_iff]; omega), trivial⟩
      · have hb13p := hb13
        try simp only [decide_eq_true_eq, decide_eq_false_iff_not] at hb13p
        refine RW.on_guard rfl rfl rfl rfl hb13 ?_
        refine RW.op1 rfl (runs_move rfl) ?_
        refine RW.on_guard rfl rfl rfl rfl hb13 ?_
        refine RW.op1 rfl (runs_indexL Tryd.underlying9 rfl rfl (by omega) (by omega)) ?_
        rw [show ((0 : Int)).toNat = 0 from rfl]
        refine RW.on_guard rfl rfl rfl rfl hb13 ?_
        refine RW.op1 rfl (runs_neI rfl rfl) ?_
        refine RW.op1 rfl (runs_pick_false rfl hb13 rfl) ?_
        refine RW.op1 rfl (runs_move rfl) ?_
        refine RW.split (t := 18) rfl (fun hb18 => ?_) (fun hb18 => ?_)
        · have hb18p := hb18
          try simp only [decide_eq_true_eq, decide_eq_false_iff_not] at hb18p
          refine RW.off_guard rfl rfl rfl rfl hb18 ?_
          refine RW.off_guard rfl rfl rfl rfl hb18 ?_
          refine RW.off_guard rfl rfl rfl rfl hb18 ?_
          refine RW.off_guard rfl rfl rfl rfl hb18 ?_
          refine RW.off_guard rfl rfl rfl rfl hb18 ?_
          refine RW.off_guard rfl rfl rfl rfl hb18 ?_
          refine RW.op1 rfl (runs_pick_true rfl hb18 rfl) ?_
          refine RW.done ?_
          exact AQ.meet () hst ⟨rfl, boolN (by unfold endsQ; simp only [decide_eq_true_eq, true_iff, Bool.false_eq_true, false_iff]; omega), trivial⟩
        · have hb18p := hb18
          try simp only [decide_eq_true_eq, decide_eq_false_iff_not] at hb18p
          refine RW.on_guard rfl rfl rfl rfl hb18 ?_
          refine RW.op1 rfl (runs_move rfl) ?_
          refine RW.on_guard rfl rfl rfl rfl hb18 ?_
          refine RW.op1 rfl (runs_move rfl) ?_
          refine RW.on_guard rfl rfl rfl rfl hb18 ?_
          refine RW.op1 rfl (runs_lenS Tryd.underlying9 rfl) ?_
          refine RW.on_guard rfl rfl rfl rfl hb18 ?_
          refine RW.op1 rfl (runs_sub rfl rfl (by omega)) ?_
          refine RW.on_guard rfl rfl rfl rfl hb18 ?_
          refine RW.op1 rfl (runs_indexL Tryd.underlying9 rfl rfl (by omega) (by omega)) ?_
          rw [show (((s.size : Nat) : Int) - 1).toNat = s.toList.length - 1 by omega]
          refine RW.on_guard rfl rfl rfl rfl hb18 ?_
          refine RW.op1 rfl (runs_neI rfl rfl) ?_
          refine RW.op1 rfl (runs_pick_false rfl hb18 rfl) ?_
          refine RW.done ?_
          exact AQ.meet () hst ⟨rfl, boolN (by unfold endsQ; simp only [decide_eq_true_eq, true_iff, Bool.false_eq_true, false_iff]; omega), trivial⟩
  · rintro _ w hstn
    clear hst
    have hst := hstn
    clear hstn
    refine AQ.next ?_
    refine CW.cond rfl (fun hc25 => ?_) (fun hc25 => ?_)
    · have hcb25 := hc25
      try simp only [decide_eq_true_eq, decide_eq_false_iff_not] at hc25
      skip
      refine CW.seq ?_
      -- region 2
      refine CW.region ?_
      refine RW.op1 rfl (runs_assign rfl) ?_
      refine RW.done ?_
      refine AQ.next ?_
      refine CW.ret ?_
      refine AQ.past_ret ?_
      refine AQ.ret1 rfl rfl ?_
      have h0 : strongB s.toList = false := by unfold strongB; rw [decide_eq_false (by simpa using hc25), Bool.false_and]
      rw [h0]
      exact ⟨rfl, hst⟩
    · have hcb25 := hc25
      try simp only [decide_eq_true_eq, decide_eq_false_iff_not] at hc25
      have hq : endsQ s.toList := by simpa using hc25
      have hq2 := hq
      unfold endsQ at hq2
      refine CW.skip ?_
      refine AQ.next ?_
      refine CW.seq ?_
      refine CW.seq ?_
      -- region 3
      refine CW.region ?_
      refine RW.op1 rfl (runs_move rfl) ?_
      refine RW.op1 rfl (runs_move rfl) ?_
      refine RW.op1 rfl (runs_lenS Tryd.underlying9 rfl) ?_
      refine RW.op1 rfl (runs_sub rfl rfl (by omega)) ?_
      refine RW.op1 rfl (runs_sliceS_lh Tryd.underlying9 rfl rfl rfl (by omega)) ?_
      obtain ⟨m, hm⟩ : ∃ m, s.extract ((1 : Int)).toNat (((s.size : Nat) : Int) - 1).toNat = m := ⟨_, rfl⟩
      have hml : m.toList = midL s.toList := by
        rw [← hm, extract_list]
        unfold midL
        rw [show ((1 : Int)).toNat = 1 from rfl, show (((s.size : Nat) : Int) - 1).toNat - 1 = s.toList.length - 2 by omega]
      have hmn : m.toList.length ≤ 12 := by rw [hml]; unfold midL; rw [List.length_take]; omega
      rw [hm]
      refine RW.opE rfl (runs_bytesOf Tryd.underlying9 Tryd.underlying49 Tryd.underlying5 rfl hst) ?_
      rintro _ w ⟨b31, cap31, pad31, rfl, hcap31, hstn⟩
      clear hst
      have hst := hstn
      clear hstn
      first
        | refine RW.op1 rfl (RdL.len Tryd.underlying49 rfl (by assumption)) ?_
        | refine RW.op1 rfl (runs_lenL Tryd.underlying49 rfl) ?_
        | refine RW.op1 rfl (Grow.len Tryd.underlying49 rfl (by assumption)) ?_
      refine RW.op1 rfl (runs_move rfl) ?_
      refine RW.done ?_
      refine AQ.next ?_
      refine CW.block ?_
      -- loop 1
      refine CW.loop Nat (fun k w => St w0 w I ((b31, rowB m.toList pad31 5) :: L) ∧ k ≤ m.toList.length ∧ ∀ x ∈ m.toList.take k, tagC x = true) (fun k => [(31, .slice (some ⟨b31, 0, none⟩) m.toList.length cap31), (32, .int .i64 (m.toList.length : Nat)), (33, .int .i64 (k : Nat))]) (fun k => m.toList.length - k) ⟨0, ⟨hst, Nat.zero_le _, by simp⟩, ⟨rfl, rfl, rfl, trivial⟩⟩ ?_
      rintro k w ⟨hstn, hk, hall⟩
      clear hst
      have hst := hstn
      clear hstn
      refine CW.seq ?_
      -- region 4
      refine CW.region ?_
      refine RW.op1 rfl (runs_lss rfl rfl) ?_
      refine RW.done ?_
      refine AQ.next ?_
      refine CW.seq ?_
      refine CW.cond rfl (fun hc34 => ?_) (fun hc34 => ?_)
      · have hcb34 := hc34
        try simp only [decide_eq_true_eq, decide_eq_false_iff_not] at hc34
        have hk1 : k < m.toList.length := by omega
        have hget := rowB_get (bs := m.toList) (pad := pad31) hk1
        have hgd := get_getD hk1
        obtain ⟨c, hc⟩ : ∃ c, m.toList[k] = c := ⟨_, rfl⟩
        rw [hgd, hc] at hget
        refine CW.skip ?_
        refine AQ.next ?_
        refine CW.seq ?_
        refine CW.block ?_
        refine CW.seq ?_
        -- region 5
        refine CW.region ?_
        refine RW.op1 rfl (runs_indexAddr0 Tryd.underlying49 ti5 rfl rfl (by omega)) ?_
        refine RW.op1 rfl (runs_load1 sc5 rfl (hst.cell_own (k := 0) rfl (by rw [Nat.zero_add, Int.toNat_natCast, Nat.mul_one]; exact hget))) ?_
        refine RW.op1 rfl (runs_assign rfl) ?_
        refine RW.done ?_
        refine AQ.next ?_
        refine CW.seq ?_
        -- region 6
        refine CW.cut Unit (fun _ w => St w0 w I ((b31, rowB m.toList pad31 5) :: L)) (fun _ => [(31, .slice (some ⟨b31, 0, none⟩) m.toList.length cap31), (32, .int .i64 (m.toList.length : Nat)), (33, .int .i64 (k : Nat)), (46, .bool (decide (¬ (33 ≤ c.toNat ∧ c.toNat ≤ 126 ∧ c.toNat ≠ 34))))]) ?_ ?_
        · -- region 6
          refine CW.region ?_
          refine RW.op1 rfl (runs_move rfl) ?_
          refine RW.op1 rfl (runs_lss rfl rfl) ?_
          refine RW.op1 rfl (runs_move rfl) ?_
          refine RW.split (t := 39) rfl (fun hb39 => ?_) (fun hb39 => ?_)
          · have hb39p := hb39
            try simp only [decide_eq_true_eq, decide_eq_false_iff_not] at hb39p
            refine RW.off_guard rfl rfl rfl rfl hb39 ?_
            refine RW.off_guard rfl rfl rfl rfl hb39 ?_
            refine RW.op1 rfl (runs_pick_true rfl hb39 rfl) ?_
            refine RW.op1 rfl (runs_move rfl) ?_
            refine RW.off_guard rfl rfl rfl rfl rfl ?_
            refine RW.off_guard rfl rfl rfl rfl rfl ?_
            refine RW.op1 rfl (runs_pick_true rfl rfl rfl) ?_
            refine RW.done ?_
            exact AQ.meet () hst ⟨rfl, rfl, rfl, boolN (by simp only [decide_eq_true_eq, true_iff, Bool.false_eq_true, false_iff]; omega), trivial⟩
          · have hb39p := hb39
            try simp only [decide_eq_true_eq, decide_eq_false_iff_not] at hb39p
            refine RW.on_guard rfl rfl rfl rfl hb39 ?_
            refine RW.op1 rfl (runs_move rfl) ?_
            refine RW.on_guard rfl rfl rfl rfl hb39 ?_
            refine RW.op1 rfl (runs_gtr rfl rfl) ?_
            refine RW.op1 rfl (runs_pick_false rfl hb39 rfl) ?_
            refine RW.op1 rfl (runs_move rfl) ?_
            refine RW.split (t := 43) rfl (fun hb43 => ?_) (fun hb43 => ?_)
            · have hb43p := hb43
              try simp only [decide_eq_true_eq, decide_eq_false_iff_not] at hb43p
              refine RW.off_guard rfl rfl rfl rfl hb43 ?_
              refine RW.off_guard rfl rfl rfl rfl hb43 ?_
              refine RW.op1 rfl (runs_pick_true rfl hb43 rfl) ?_
              refine RW.done ?_
              exact AQ.meet () hst ⟨rfl, rfl, rfl, boolN (by simp only [decide_eq_true_eq, true_iff, Bool.false_eq_true, false_iff]; omega), trivial⟩
            · have hb43p := hb43
              try simp only [decide_eq_true_eq, decide_eq_false_iff_not] at hb43p
              refine RW.on_guard rfl rfl rfl rfl hb43 ?_
              refine RW.op1 rfl (runs_move rfl) ?_
              refine RW.on_guard rfl rfl rfl rfl hb43 ?_
              refine RW.op1 rfl (runs_eqI rfl rfl) ?_
              refine RW.op1 rfl (runs_pick_false rfl hb43 rfl) ?_
              refine RW.done ?_
              exact AQ.meet () hst ⟨rfl, rfl, rfl, boolN (by simp only [decide_eq_true_eq, true_iff, Bool.false_eq_true, false_iff]; omega), trivial⟩
        · rintro _ w hstn
          clear hst
          have hst := hstn
          clear hstn
          refine AQ.next ?_
          refine CW.cond rfl (fun hc46 => ?_) (fun hc46 => ?_)
          · have hcb46 := hc46
            try simp only [decide_eq_true_eq, decide_eq_false_iff_not] at hc46
            refine CW.seq ?_
            -- region 7
            refine CW.region ?_
            refine RW.op1 rfl (runs_assign rfl) ?_
            refine RW.done ?_
            refine AQ.next ?_
            refine CW.ret ?_
            refine AQ.block_ret ?_
            refine AQ.past_ret ?_
            refine AQ.past_ret ?_
            refine AQ.block_ret ?_
            refine AQ.past_ret ?_
            refine AQ.ret1 rfl rfl ?_
            have h0 : strongB s.toList = false := by
              unfold strongB
              rw [show (midL s.toList).all tagC = false from by
                rw [← hml, List.all_eq_false]
                exact ⟨_, List.getElem_mem hk1, by rw [hc]; unfold tagC; simpa using hc46⟩, Bool.and_false]
            rw [h0]
            exact ⟨rfl, hst.drop1⟩
          · have hcb46 := hc46
            try simp only [decide_eq_true_eq, decide_eq_false_iff_not] at hc46
            refine CW.skip ?_
            refine AQ.block_normal ?_
            refine AQ.next ?_
            -- region 8
            refine CW.region ?_
            refine RW.op1 rfl (runs_add rfl rfl (by omega)) ?_
            refine RW.op1 rfl (runs_move rfl) ?_
            refine RW.done ?_
            exact AQ.again (x := k) (k + 1) ⟨hst, by omega, takeE_more hall hk1 (by rw [hc]; unfold tagC; simpa using hc46)⟩ ⟨rfl, rfl, rfl, trivial⟩ (by omega)
      · have hcb34 := hc34
        try simp only [decide_eq_true_eq, decide_eq_false_iff_not] at hc34
        skip
        refine CW.exit ?_
        refine AQ.past_exit ?_
        refine AQ.past_exit ?_
        refine AQ.block_hit ?_
        refine AQ.next ?_
        refine CW.seq ?_
        -- region 9
        refine CW.region ?_
        refine RW.op1 rfl (runs_assign rfl) ?_
        refine RW.done ?_
        refine AQ.next ?_
        refine CW.ret ?_
        refine AQ.ret1 rfl rfl ?_
        have h1 : strongB s.toList = true := by
          unfold strongB
          rw [decide_eq_true hq, Bool.true_and, ← hml, List.all_eq_true]
          rw [List.take_of_length_le (by omega)] at hall
          exact hall
        rw [h1]
        exact ⟨rfl, hst.drop1⟩
end Go.Proofs.YtjlkidokkaibiaaDoorX
