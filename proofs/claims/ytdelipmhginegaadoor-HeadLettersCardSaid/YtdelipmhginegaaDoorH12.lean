/- Names and values by their letters: what these come to. -/
import Derived.Test.YtdelipmhginegaaDoorT
import Derived.Test.YtdelipmhginegaaDoorQ0
import Derived.Test.YtdelipmhginegaaDoorXG
namespace Go.Proofs.YtdelipmhginegaaDoorX
set_option linter.unusedVariables false
set_option linter.unusedSimpArgs false
open Go Go.RowKit Go.Proofs

theorem extract_list {s : ByteArray} {i j : Nat} : (s.extract i j).toList = (s.toList.drop i).take (j - i) := by
  rw [ByteArray.toList_eq, ByteArray.toList_eq, ByteArray.data_extract, Array.toList_extract, List.extract_eq_take_drop]
theorem takeE_more {α : Type} {p : α → Prop} {xs : List α} {k : Nat} (h : ∀ x ∈ xs.take k, p x) (hk : k < xs.length) (hp : p xs[k]) : ∀ x ∈ xs.take (k + 1), p x := by
  intro x hx
  rw [List.take_add_one, List.getElem?_eq_getElem hk] at hx
  rcases List.mem_append.1 hx with hx | hx
  · exact h x hx
  · simp at hx
    subst hx
    exact hp
def letterP (x : Int) : Prop := (65 ≤ x ∧ x ≤ 90) ∨ (97 ≤ x ∧ x ≤ 122) ∨ (48 ≤ x ∧ x ≤ 57) ∨ x = 45
instance (x : Int) : Decidable (letterP x) := by unfold letterP; infer_instance
def letB (c : UInt8) : Bool := decide (letterP (c.toNat : Int))
def letsB (l : List UInt8) : Bool := l.all letB
def nameB (l : List UInt8) : Bool := decide (1 ≤ l.length) && (decide (l.length ≤ 12) && letsB l)
def seenB (c : UInt8) : Bool := decide (32 ≤ c.toNat) && decide (c.toNat ≤ 126)
def headIs (l : List UInt8) (c : UInt8) : Bool := decide (0 < l.length) && l.getD 0 0 == c
def lastIs (l : List UInt8) (c : UInt8) : Bool := decide (0 < l.length) && l.getD (l.length - 1) 0 == c
theorem get_getD {l : List UInt8} {k : Nat} (h : k < l.length) : l.getD k 0 = l[k] := by
  rw [List.getD_eq_getElem?_getD, List.getElem?_eq_getElem h]
  rfl
set_option maxRecDepth 100000 in
set_option maxHeartbeats 1000000 in
theorem letters_spec {w0 w : World} {I : Imm} {L : Own} (hst : St w0 w I L) (s : ByteArray) (hs : s.size ≤ 1000000) :
    Calls Tryd.prog 9 #[.string s] w fun e w' => e = .returned (.bool (letsB s.toList)) ∧ St w0 w' I L := by
  have hsz := size_toList s
  refine enter Tryd.func9 rfl (N := 41) rfl rfl ?_
  simp only [List.zipIdx_cons, List.zipIdx_nil, List.map_cons, List.map_nil, Nat.zero_add, Nat.reduceAdd]
  have hle := Imm.le.refl I
  refine CW.seq ?_
  -- region 0
  refine CW.region ?_
  refine RW.op1 rfl (runs_assign rfl) ?_
  refine RW.done ?_
  refine AQ.next ?_
  refine CW.seq ?_
  refine CW.seq ?_
  -- region 1
  refine CW.region ?_
  refine RW.op1 rfl (runs_move rfl) ?_
  refine RW.op1 rfl (runs_lenS Tryd.underlying9 rfl) ?_
  refine RW.op1 rfl (runs_move rfl) ?_
  refine RW.done ?_
  refine AQ.next ?_
  refine CW.block ?_
  -- loop 1
  refine CW.loop Nat (fun k w => St w0 w I L ∧ k ≤ s.toList.length ∧ ∀ x ∈ s.toList.take k, letB x = true) (fun k => [(0, .string s), (6, .int .i64 (s.size : Nat)), (7, .int .i64 (k : Nat))]) (fun k => s.toList.length - k) ⟨0, ⟨hst, Nat.zero_le _, by simp⟩, ⟨rfl, rfl, rfl, trivial⟩⟩ ?_
  rintro k w ⟨hstn, hk, hall⟩
  clear hst
  have hst := hstn
  clear hstn
  refine CW.seq ?_
  -- region 2
  refine CW.region ?_
  refine RW.op1 rfl (runs_lss rfl rfl) ?_
  refine RW.done ?_
  refine AQ.next ?_
  refine CW.seq ?_
  refine CW.cond rfl (fun hc8 => ?_) (fun hc8 => ?_)
  · have hcb8 := hc8
    try simp only [decide_eq_true_eq, decide_eq_false_iff_not] at hc8
    have hk1 : k < s.toList.length := by omega
    have hgd := get_getD hk1
    refine CW.skip ?_
    refine AQ.next ?_
    refine CW.seq ?_
    refine CW.block ?_
    refine CW.seq ?_
    -- region 3
    refine CW.region ?_
    refine RW.op1 rfl (runs_move rfl) ?_
    refine RW.op1 rfl (runs_assign rfl) ?_
    refine RW.done ?_
    refine AQ.next ?_
    refine CW.seq ?_
    -- region 4
    refine CW.region ?_
    refine RW.op1 rfl (runs_move rfl) ?_
    refine RW.op1 rfl (runs_move rfl) ?_
    refine RW.op1 rfl (runs_indexL Tryd.underlying9 rfl rfl (by omega) (by omega)) ?_
    refine RW.op1 rfl (runs_assign rfl) ?_
    refine RW.done ?_
    refine AQ.next ?_
    refine CW.seq ?_
    -- region 5
    obtain ⟨c, hc⟩ : ∃ c, s.toList[k] = c := ⟨_, rfl⟩
    rw [Int.toNat_natCast, hgd, hc]
    refine CW.cut Unit (fun _ w => St w0 w I L) (fun _ => [(0, .string s), (6, .int .i64 (s.size : Nat)), (7, .int .i64 (k : Nat)), (39, .bool (decide (¬ letterP (c.toNat : Int))))]) ?_ ?_
    · -- region 5
      refine CW.region ?_
      refine RW.op1 rfl (runs_move rfl) ?_
      refine RW.op1 rfl (runs_geq rfl rfl) ?_
      refine RW.op1 rfl (runs_move rfl) ?_
      refine RW.split (t := 15) rfl (fun hb15 => ?_) (fun hb15 => ?_)
      · have hb15p := hb15
        try simp only [decide_eq_true_eq, decide_eq_false_iff_not] at hb15p
        refine RW.on_guard rfl rfl rfl rfl hb15 ?_
        refine RW.op1 rfl (runs_move rfl) ?_
        refine RW.on_guard rfl rfl rfl rfl hb15 ?_
        refine RW.op1 rfl (runs_leq rfl rfl) ?_
        refine RW.op1 rfl (runs_pick_true rfl hb15 rfl) ?_
        refine RW.op1 rfl (runs_move rfl) ?_
        refine RW.split (t := 19) rfl (fun hb19 => ?_) (fun hb19 => ?_)
        · have hb19p := hb19
          try simp only [decide_eq_true_eq, decide_eq_false_iff_not] at hb19p
          refine RW.off_guard rfl rfl rfl rfl hb19 ?_
          refine RW.off_guard rfl rfl rfl rfl hb19 ?_
          refine RW.off_guard rfl rfl rfl rfl hb19 ?_
          refine RW.off_undef rfl rfl rfl rfl ?_
          refine RW.off_undef rfl rfl rfl rfl ?_
          refine RW.off_guard rfl rfl rfl rfl hb19 ?_
          refine RW.op1 rfl (runs_pick_true rfl hb19 rfl) ?_
          refine RW.op1 rfl (runs_move rfl) ?_
          refine RW.off_guard rfl rfl rfl rfl rfl ?_
          refine RW.off_guard rfl rfl rfl rfl rfl ?_
          refine RW.off_guard rfl rfl rfl rfl rfl ?_
          refine RW.off_undef rfl rfl rfl rfl ?_
          refine RW.off_undef rfl rfl rfl rfl ?_
          refine RW.off_guard rfl rfl rfl rfl rfl ?_
          refine RW.op1 rfl (runs_pick_true rfl rfl rfl) ?_
          refine RW.op1 rfl (runs_move rfl) ?_
          refine RW.off_guard rfl rfl rfl rfl rfl ?_
          refine RW.off_guard rfl rfl rfl rfl rfl ?_
          refine RW.op1 rfl (runs_pick_true rfl rfl rfl) ?_
          refine RW.op1 rfl (runs_not rfl) ?_
          refine RW.done ?_
          exact AQ.meet () hst ⟨rfl, rfl, rfl, boolN (by unfold letterP; simp only [Bool.not_eq_true', decide_eq_true_eq, decide_eq_false_iff_not, true_iff, Bool.not_true, Bool.not_false, Bool.false_eq_true, false_iff]; omega), trivial⟩
        · have hb19p := hb19
          try simp only [decide_eq_true_eq, decide_eq_false_iff_not] at hb19p
          refine RW.on_guard rfl rfl rfl rfl hb19 ?_
          refine RW.op1 rfl (runs_move rfl) ?_
          refine RW.on_guard rfl rfl rfl rfl hb19 ?_
          refine RW.op1 rfl (runs_geq rfl rfl) ?_
          refine RW.on_guard rfl rfl rfl rfl hb19 ?_
          refine RW.op1 rfl (runs_move rfl) ?_
          refine RW.split (t := 22) rfl (fun hb22 => ?_) (fun hb22 => ?_)
          · have hb22p := hb22
            try simp only [decide_eq_true_eq, decide_eq_false_iff_not] at hb22p
            refine RW.on_guard rfl rfl rfl rfl hb22 ?_
            refine RW.op1 rfl (runs_move rfl) ?_
            refine RW.on_guard rfl rfl rfl rfl hb22 ?_
            refine RW.op1 rfl (runs_leq rfl rfl) ?_
            refine RW.on_guard rfl rfl rfl rfl hb19 ?_
            refine RW.op1 rfl (runs_pick_true rfl hb22 rfl) ?_
            refine RW.op1 rfl (runs_pick_false rfl hb19 rfl) ?_
            refine RW.op1 rfl (runs_move rfl) ?_
            refine RW.split (t := 27) rfl (fun hb27 => ?_) (fun hb27 => ?_)
            · have hb27p := hb27
              try simp only [decide_eq_true_eq, decide_eq_false_iff_not] at hb27p
              refine RW.off_guard rfl rfl rfl rfl hb27 ?_
              refine RW.off_guard rfl rfl rfl rfl hb27 ?_
              refine RW.off_guard rfl rfl rfl rfl hb27 ?_
              refine RW.off_undef rfl rfl rfl rfl ?_
              refine RW.off_undef rfl rfl rfl rfl ?_
              refine RW.off_guard rfl rfl rfl rfl hb27 ?_
              refine RW.op1 rfl (runs_pick_true rfl hb27 rfl) ?_
              refine RW.op1 rfl (runs_move rfl) ?_
              refine RW.off_guard rfl rfl rfl rfl rfl ?_
              refine RW.off_guard rfl rfl rfl rfl rfl ?_
              refine RW.op1 rfl (runs_pick_true rfl rfl rfl) ?_
              refine RW.op1 rfl (runs_not rfl) ?_
              refine RW.done ?_
              exact AQ.meet () hst ⟨rfl, rfl, rfl, boolN (by unfold letterP; simp only [Bool.not_eq_true', decide_eq_true_eq, decide_eq_false_iff_not, true_iff, Bool.not_true, Bool.not_false, Bool.false_eq_true, false_iff]; omega), trivial⟩
            · have hb27p := hb27
              try simp only [decide_eq_true_eq, decide_eq_false_iff_not] at hb27p
              refine RW.on_guard rfl rfl rfl rfl hb27 ?_
              refine RW.op1 rfl (runs_move rfl) ?_
              refine RW.on_guard rfl rfl rfl rfl hb27 ?_
              refine RW.op1 rfl (runs_geq rfl rfl) ?_
              refine RW.on_guard rfl rfl rfl rfl hb27 ?_
              refine RW.op1 rfl (runs_move rfl) ?_
              refine RW.split (t := 30) rfl (fun hb30 => ?_) (fun hb30 => ?_)
              · have hb30p := hb30
                try simp only [decide_eq_true_eq, decide_eq_false_iff_not] at hb30p
                refine RW.on_guard rfl rfl rfl rfl hb30 ?_
                refine RW.op1 rfl (runs_move rfl) ?_
                refine RW.on_guard rfl rfl rfl rfl hb30 ?_
                refine RW.op1 rfl (runs_leq rfl rfl) ?_
                refine RW.on_guard rfl rfl rfl rfl hb27 ?_
                refine RW.op1 rfl (runs_pick_true rfl hb30 rfl) ?_
                refine RW.op1 rfl (runs_pick_false rfl hb27 rfl) ?_
                refine RW.op1 rfl (runs_move rfl) ?_
                refine RW.split (t := 35) rfl (fun hb35 => ?_) (fun hb35 => ?_)
                · have hb35p := hb35
                  try simp only [decide_eq_true_eq, decide_eq_false_iff_not] at hb35p
                  refine RW.off_guard rfl rfl rfl rfl hb35 ?_
                  refine RW.off_guard rfl rfl rfl rfl hb35 ?_
                  refine RW.op1 rfl (runs_pick_true rfl hb35 rfl) ?_
                  refine RW.op1 rfl (runs_not rfl) ?_
                  refine RW.done ?_
                  exact AQ.meet () hst ⟨rfl, rfl, rfl, boolN (by unfold letterP; simp only [Bool.not_eq_true', decide_eq_true_eq, decide_eq_false_iff_not, true_iff, Bool.not_true, Bool.not_false, Bool.false_eq_true, false_iff]; omega), trivial⟩
                · have hb35p := hb35
                  try simp only [decide_eq_true_eq, decide_eq_false_iff_not] at hb35p
                  refine RW.on_guard rfl rfl rfl rfl hb35 ?_
                  refine RW.op1 rfl (runs_move rfl) ?_
                  refine RW.on_guard rfl rfl rfl rfl hb35 ?_
                  refine RW.op1 rfl (runs_eqI rfl rfl) ?_
                  refine RW.op1 rfl (runs_pick_false rfl hb35 rfl) ?_
                  refine RW.op1 rfl (runs_not rfl) ?_
                  refine RW.done ?_
                  exact AQ.meet () hst ⟨rfl, rfl, rfl, boolN (by unfold letterP; simp only [Bool.not_eq_true', decide_eq_true_eq, decide_eq_false_iff_not, true_iff, Bool.not_true, Bool.not_false, Bool.false_eq_true, false_iff]; omega), trivial⟩
              · have hb30p := hb30
                try simp only [decide_eq_true_eq, decide_eq_false_iff_not] at hb30p
                refine RW.off_guard rfl rfl rfl rfl hb30 ?_
                refine RW.off_guard rfl rfl rfl rfl hb30 ?_
                refine RW.on_guard rfl rfl rfl rfl hb27 ?_
                refine RW.op1 rfl (runs_pick_false rfl hb30 rfl) ?_
                refine RW.op1 rfl (runs_pick_false rfl hb27 rfl) ?_
                refine RW.op1 rfl (runs_move rfl) ?_
                refine RW.on_guard rfl rfl rfl rfl rfl ?_
                refine RW.op1 rfl (runs_move rfl) ?_
                refine RW.on_guard rfl rfl rfl rfl rfl ?_
                refine RW.op1 rfl (runs_eqI rfl rfl) ?_
                refine RW.op1 rfl (runs_pick_false rfl rfl rfl) ?_
                refine RW.op1 rfl (runs_not rfl) ?_
                refine RW.done ?_
                exact AQ.meet () hst ⟨rfl, rfl, rfl, boolN (by unfold letterP; simp only [Bool.not_eq_true', decide_eq_true_eq, decide_eq_false_iff_not, true_iff, Bool.not_true, Bool.not_false, Bool.false_eq_true, false_iff]; omega), trivial⟩
          · have hb22p := hb22
            try simp only [decide_eq_true_eq, decide_eq_false_iff_not] at hb22p
            refine RW.off_guard rfl rfl rfl rfl hb22 ?_
            refine RW.off_guard rfl rfl rfl rfl hb22 ?_
            refine RW.on_guard rfl rfl rfl rfl hb19 ?_
            refine RW.op1 rfl (runs_pick_false rfl hb22 rfl) ?_
            refine RW.op1 rfl (runs_pick_false rfl hb19 rfl) ?_
            refine RW.op1 rfl (runs_move rfl) ?_
            refine RW.on_guard rfl rfl rfl rfl rfl ?_
            refine RW.op1 rfl (runs_move rfl) ?_
            refine RW.on_guard rfl rfl rfl rfl rfl ?_
            refine RW.op1 rfl (runs_geq rfl rfl) ?_
            refine RW.on_guard rfl rfl rfl rfl rfl ?_
            refine RW.op1 rfl (runs_move rfl) ?_
            refine RW.split (t := 30) rfl (fun hb30 => ?_) (fun hb30 => ?_)
            · have hb30p := hb30
              try simp only [decide_eq_true_eq, decide_eq_false_iff_not] at hb30p
              refine RW.on_guard rfl rfl rfl rfl hb30 ?_
              refine RW.op1 rfl (runs_move rfl) ?_
              refine RW.on_guard rfl rfl rfl rfl hb30 ?_
              refine RW.op1 rfl (runs_leq rfl rfl) ?_
              refine RW.on_guard rfl rfl rfl rfl rfl ?_
              refine RW.op1 rfl (runs_pick_true rfl hb30 rfl) ?_
              refine RW.op1 rfl (runs_pick_false rfl rfl rfl) ?_
              refine RW.op1 rfl (runs_move rfl) ?_
              refine RW.split (t := 35) rfl (fun hb35 => ?_) (fun hb35 => ?_)
              · have hb35p := hb35
                try simp only [decide_eq_true_eq, decide_eq_false_iff_not] at hb35p
                refine RW.off_guard rfl rfl rfl rfl hb35 ?_
                refine RW.off_guard rfl rfl rfl rfl hb35 ?_
                refine RW.op1 rfl (runs_pick_true rfl hb35 rfl) ?_
                refine RW.op1 rfl (runs_not rfl) ?_
                refine RW.done ?_
                exact AQ.meet () hst ⟨rfl, rfl, rfl, boolN (by unfold letterP; simp only [Bool.not_eq_true', decide_eq_true_eq, decide_eq_false_iff_not, true_iff, Bool.not_true, Bool.not_false, Bool.false_eq_true, false_iff]; omega), trivial⟩
              · have hb35p := hb35
                try simp only [decide_eq_true_eq, decide_eq_false_iff_not] at hb35p
                refine RW.on_guard rfl rfl rfl rfl hb35 ?_
                refine RW.op1 rfl (runs_move rfl) ?_
                refine RW.on_guard rfl rfl rfl rfl hb35 ?_
                refine RW.op1 rfl (runs_eqI rfl rfl) ?_
                refine RW.op1 rfl (runs_pick_false rfl hb35 rfl) ?_
                refine RW.op1 rfl (runs_not rfl) ?_
                refine RW.done ?_
                exact AQ.meet () hst ⟨rfl, rfl, rfl, boolN (by unfold letterP; simp only [Bool.not_eq_true', decide_eq_true_eq, decide_eq_false_iff_not, true_iff, Bool.not_true, Bool.not_false, Bool.false_eq_true, false_iff]; omega), trivial⟩
            · have hb30p := hb30
              try simp only [decide_eq_true_eq, decide_eq_false_iff_not] at hb30p
              refine RW.off_guard rfl rfl rfl rfl hb30 ?_
              refine RW.off_guard rfl rfl rfl rfl hb30 ?_
              refine RW.on_guard rfl rfl rfl rfl rfl ?_
              refine RW.op1 rfl (runs_pick_false rfl hb30 rfl) ?_
              refine RW.op1 rfl (runs_pick_false rfl rfl rfl) ?_
              refine RW.op1 rfl (runs_move rfl) ?_
              refine RW.on_guard rfl rfl rfl rfl rfl ?_
              refine RW.op1 rfl (runs_move rfl) ?_
              refine RW.on_guard rfl rfl rfl rfl rfl ?_
              refine RW.op1 rfl (runs_eqI rfl rfl) ?_
              refine RW.op1 rfl (runs_pick_false rfl rfl rfl) ?_
              refine RW.op1 rfl (runs_not rfl) ?_
              refine RW.done ?_
              exact AQ.meet () hst ⟨rfl, rfl, rfl, boolN (by unfold letterP; simp only [Bool.not_eq_true', decide_eq_true_eq, decide_eq_false_iff_not, true_iff, Bool.not_true, Bool.not_false, Bool.false_eq_true, false_iff]; omega), trivial⟩
      · have hb15p := hb15
        try simp only [decide_eq_true_eq, decide_eq_false_iff_not] at hb15p
        refine RW.off_guard rfl rfl rfl rfl hb15 ?_
        refine RW.off_guard rfl rfl rfl rfl hb15 ?_
        refine RW.op1 rfl (runs_pick_false rfl hb15 rfl) ?_
        refine RW.op1 rfl (runs_move rfl) ?_
        refine RW.on_guard rfl rfl rfl rfl rfl ?_
        refine RW.op1 rfl (runs_move rfl) ?_
        refine RW.on_guard rfl rfl rfl rfl rfl ?_
        refine RW.op1 rfl (runs_geq rfl rfl) ?_
        refine RW.on_guard rfl rfl rfl rfl rfl ?_
        refine RW.op1 rfl (runs_move rfl) ?_
        refine RW.split (t := 22) rfl (fun hb22 => ?_) (fun hb22 => ?_)
        · have hb22p := hb22
          try simp only [decide_eq_true_eq, decide_eq_false_iff_not] at hb22p
          refine RW.on_guard rfl rfl rfl rfl hb22 ?_
          refine RW.op1 rfl (runs_move rfl) ?_
          refine RW.on_guard rfl rfl rfl rfl hb22 ?_
          refine RW.op1 rfl (runs_leq rfl rfl) ?_
          refine RW.on_guard rfl rfl rfl rfl rfl ?_
          refine RW.op1 rfl (runs_pick_true rfl hb22 rfl) ?_
          refine RW.op1 rfl (runs_pick_false rfl rfl rfl) ?_
          refine RW.op1 rfl (runs_move rfl) ?_
          refine RW.split (t := 27) rfl (fun hb27 => ?_) (fun hb27 => ?_)
          · have hb27p := hb27
            try simp only [decide_eq_true_eq, decide_eq_false_iff_not] at hb27p
            refine RW.off_guard rfl rfl rfl rfl hb27 ?_
            refine RW.off_guard rfl rfl rfl rfl hb27 ?_
            refine RW.off_guard rfl rfl rfl rfl hb27 ?_
            refine RW.off_undef rfl rfl rfl rfl ?_
            refine RW.off_undef rfl rfl rfl rfl ?_
            refine RW.off_guard rfl rfl rfl rfl hb27 ?_
            refine RW.op1 rfl (runs_pick_true rfl hb27 rfl) ?_
            refine RW.op1 rfl (runs_move rfl) ?_
            refine RW.off_guard rfl rfl rfl rfl rfl ?_
            refine RW.off_guard rfl rfl rfl rfl rfl ?_
            refine RW.op1 rfl (runs_pick_true rfl rfl rfl) ?_
            refine RW.op1 rfl (runs_not rfl) ?_
            refine RW.done ?_
            exact AQ.meet () hst ⟨rfl, rfl, rfl, boolN (by unfold letterP; simp only [Bool.not_eq_true', decide_eq_true_eq, decide_eq_false_iff_not, true_iff, Bool.not_true, Bool.not_false, Bool.false_eq_true, false_iff]; omega), trivial⟩
          · have hb27p := hb27
            try simp only [decide_eq_true_eq, decide_eq_false_iff_not] at hb27p
            refine RW.on_guard rfl rfl rfl rfl hb27 ?_
            refine RW.op1 rfl (runs_move rfl) ?_
            refine RW.on_guard rfl rfl rfl rfl hb27 ?_
            refine RW.op1 rfl (runs_geq rfl rfl) ?_
            refine RW.on_guard rfl rfl rfl rfl hb27 ?_
            refine RW.op1 rfl (runs_move rfl) ?_
            refine RW.split (t := 30) rfl (fun hb30 => ?_) (fun hb30 => ?_)
            · have hb30p := hb30
              try simp only [decide_eq_true_eq, decide_eq_false_iff_not] at hb30p
              refine RW.on_guard rfl rfl rfl rfl hb30 ?_
              refine RW.op1 rfl (runs_move rfl) ?_
              refine RW.on_guard rfl rfl rfl rfl hb30 ?_
              refine RW.op1 rfl (runs_leq rfl rfl) ?_
              refine RW.on_guard rfl rfl rfl rfl hb27 ?_
              refine RW.op1 rfl (runs_pick_true rfl hb30 rfl) ?_
              refine RW.op1 rfl (runs_pick_false rfl hb27 rfl) ?_
              refine RW.op1 rfl (runs_move rfl) ?_
              refine RW.split (t := 35) rfl (fun hb35 => ?_) (fun hb35 => ?_)
              · have hb35p := hb35
                try simp only [decide_eq_true_eq, decide_eq_false_iff_not] at hb35p
                refine RW.off_guard rfl rfl rfl rfl hb35 ?_
                refine RW.off_guard rfl rfl rfl rfl hb35 ?_
                refine RW.op1 rfl (runs_pick_true rfl hb35 rfl) ?_
                refine RW.op1 rfl (runs_not rfl) ?_
                refine RW.done ?_
                exact AQ.meet () hst ⟨rfl, rfl, rfl, boolN (by unfold letterP; simp only [Bool.not_eq_true', decide_eq_true_eq, decide_eq_false_iff_not, true_iff, Bool.not_true, Bool.not_false, Bool.false_eq_true, false_iff]; omega), trivial⟩
              · have hb35p := hb35
                try simp only [decide_eq_true_eq, decide_eq_false_iff_not] at hb35p
                refine RW.on_guard rfl rfl rfl rfl hb35 ?_
                refine RW.op1 rfl (runs_move rfl) ?_
                refine RW.on_guard rfl rfl rfl rfl hb35 ?_
                refine RW.op1 rfl (runs_eqI rfl rfl) ?_
                refine RW.op1 rfl (runs_pick_false rfl hb35 rfl) ?_
                refine RW.op1 rfl (runs_not rfl) ?_
                refine RW.done ?_
                exact AQ.meet () hst ⟨rfl, rfl, rfl, boolN (by unfold letterP; simp only [Bool.not_eq_true', decide_eq_true_eq, decide_eq_false_iff_not, true_iff, Bool.not_true, Bool.not_false, Bool.false_eq_true, false_iff]; omega), trivial⟩
            · have hb30p := hb30
              try simp only [decide_eq_true_eq, decide_eq_false_iff_not] at hb30p
              refine RW.off_guard rfl rfl rfl rfl hb30 ?_
              refine RW.off_guard rfl rfl rfl rfl hb30 ?_
              refine RW.on_guard rfl rfl rfl rfl hb27 ?_
              refine RW.op1 rfl (runs_pick_false rfl hb30 rfl) ?_
              refine RW.op1 rfl (runs_pick_false rfl hb27 rfl) ?_
              refine RW.op1 rfl (runs_move rfl) ?_
              refine RW.on_guard rfl rfl rfl rfl rfl ?_
              refine RW.op1 rfl (runs_move rfl) ?_
              refine RW.on_guard rfl rfl rfl rfl rfl ?_
              refine RW.op1 rfl (runs_eqI rfl rfl) ?_
              refine RW.op1 rfl (runs_pick_false rfl rfl rfl) ?_
              refine RW.op1 rfl (runs_not rfl) ?_
              refine RW.done ?_
              exact AQ.meet () hst ⟨rfl, rfl, rfl, boolN (by unfold letterP; simp only [Bool.not_eq_true', decide_eq_true_eq, decide_eq_false_iff_not, true_iff, Bool.not_true, Bool.not_false, Bool.false_eq_true, false_iff]; omega), trivial⟩
        · have hb22p := hb22
          try simp only [decide_eq_true_eq, decide_eq_false_iff_not] at hb22p
          refine RW.off_guard rfl rfl rfl rfl hb22 ?_
          refine RW.off_guard rfl rfl rfl rfl hb22 ?_
          refine RW.on_guard rfl rfl rfl rfl rfl ?_
          refine RW.op1 rfl (runs_pick_false rfl hb22 rfl) ?_
          refine RW.op1 rfl (runs_pick_false rfl rfl rfl) ?_
          refine RW.op1 rfl (runs_move rfl) ?_
          refine RW.on_guard rfl rfl rfl rfl rfl ?_
          refine RW.op1 rfl (runs_move rfl) ?_
          refine RW.on_guard rfl rfl rfl rfl rfl ?_
          refine RW.op1 rfl (runs_geq rfl rfl) ?_
          refine RW.on_guard rfl rfl rfl rfl rfl ?_
          refine RW.op1 rfl (runs_move rfl) ?_
          refine RW.split (t := 30) rfl (fun hb30 => ?_) (fun hb30 => ?_)
          · have hb30p := hb30
            try simp only [decide_eq_true_eq, decide_eq_false_iff_not] at hb30p
            refine RW.on_guard rfl rfl rfl rfl hb30 ?_
            refine RW.op1 rfl (runs_move rfl) ?_
            refine RW.on_guard rfl rfl rfl rfl hb30 ?_
            refine RW.op1 rfl (runs_leq rfl rfl) ?_
            refine RW.on_guard rfl rfl rfl rfl rfl ?_
            refine RW.op1 rfl (runs_pick_true rfl hb30 rfl) ?_
            refine RW.op1 rfl (runs_pick_false rfl rfl rfl) ?_
            refine RW.op1 rfl (runs_move rfl) ?_
            refine RW.split (t := 35) rfl (fun hb35 => ?_) (fun hb35 => ?_)
            · have hb35p := hb35
              try simp only [decide_eq_true_eq, decide_eq_false_iff_not] at hb35p
              refine RW.off_guard rfl rfl rfl rfl hb35 ?_
              refine RW.off_guard rfl rfl rfl rfl hb35 ?_
              refine RW.op1 rfl (runs_pick_true rfl hb35 rfl) ?_
              refine RW.op1 rfl (runs_not rfl) ?_
              refine RW.done ?_
              exact AQ.meet () hst ⟨rfl, rfl, rfl, boolN (by unfold letterP; simp only [Bool.not_eq_true', decide_eq_true_eq, decide_eq_false_iff_not, true_iff, Bool.not_true, Bool.not_false, Bool.false_eq_true, false_iff]; omega), trivial⟩
            · have hb35p := hb35
              try simp only [decide_eq_true_eq, decide_eq_false_iff_not] at hb35p
              refine RW.on_guard rfl rfl rfl rfl hb35 ?_
              refine RW.op1 rfl (runs_move rfl) ?_
              refine RW.on_guard rfl rfl rfl rfl hb35 ?_
              refine RW.op1 rfl (runs_eqI rfl rfl) ?_
              refine RW.op1 rfl (runs_pick_false rfl hb35 rfl) ?_
              refine RW.op1 rfl (runs_not rfl) ?_
              refine RW.done ?_
              exact AQ.meet () hst ⟨rfl, rfl, rfl, boolN (by unfold letterP; simp only [Bool.not_eq_true', decide_eq_true_eq, decide_eq_false_iff_not, true_iff, Bool.not_true, Bool.not_false, Bool.false_eq_true, false_iff]; omega), trivial⟩
          · have hb30p := hb30
            try simp only [decide_eq_true_eq, decide_eq_false_iff_not] at hb30p
            refine RW.off_guard rfl rfl rfl rfl hb30 ?_
            refine RW.off_guard rfl rfl rfl rfl hb30 ?_
            refine RW.on_guard rfl rfl rfl rfl rfl ?_
            refine RW.op1 rfl (runs_pick_false rfl hb30 rfl) ?_
            refine RW.op1 rfl (runs_pick_false rfl rfl rfl) ?_
            refine RW.op1 rfl (runs_move rfl) ?_
            refine RW.on_guard rfl rfl rfl rfl rfl ?_
            refine RW.op1 rfl (runs_move rfl) ?_
            refine RW.on_guard rfl rfl rfl rfl rfl ?_
            refine RW.op1 rfl (runs_eqI rfl rfl) ?_
            refine RW.op1 rfl (runs_pick_false rfl rfl rfl) ?_
            refine RW.op1 rfl (runs_not rfl) ?_
            refine RW.done ?_
            exact AQ.meet () hst ⟨rfl, rfl, rfl, boolN (by unfold letterP; simp only [Bool.not_eq_true', decide_eq_true_eq, decide_eq_false_iff_not, true_iff, Bool.not_true, Bool.not_false, Bool.false_eq_true, false_iff]; omega), trivial⟩
    · rintro _ w hstn
      clear hst
      have hst := hstn
      clear hstn
      refine AQ.next ?_
      refine CW.cond rfl (fun hc39 => ?_) (fun hc39 => ?_)
      · have hcb39 := hc39
        try simp only [decide_eq_true_eq, decide_eq_false_iff_not] at hc39
        refine CW.seq ?_
        -- region 6
        refine CW.region ?_
        refine RW.op1 rfl (runs_assign rfl) ?_
        refine RW.done ?_
        refine AQ.next ?_
        refine CW.ret ?_
        refine AQ.block_ret ?_
        refine AQ.past_ret ?_
        refine AQ.past_ret ?_
        refine AQ.block_ret ?_
        refine AQ.past_ret ?_
        refine AQ.ret1 rfl rfl ?_
        have hno : letsB s.toList = false := by
          unfold letsB
          rw [List.all_eq_false]
          exact ⟨_, List.getElem_mem hk1, by rw [hc]; unfold letB; simpa using hc39⟩
        rw [hno]
        exact ⟨rfl, hst⟩
      · have hcb39 := hc39
        try simp only [decide_eq_true_eq, decide_eq_false_iff_not] at hc39
        refine CW.skip ?_
        refine AQ.block_normal ?_
        refine AQ.next ?_
        -- region 7
        refine CW.region ?_
        refine RW.op1 rfl (runs_add rfl rfl (by omega)) ?_
        refine RW.op1 rfl (runs_move rfl) ?_
        refine RW.done ?_
        exact AQ.again (x := k) (k + 1) ⟨hst, by omega, takeE_more hall hk1 (by rw [hc]; unfold letB; simpa using hc39)⟩ ⟨rfl, rfl, rfl, trivial⟩ (by omega)
  · have hcb8 := hc8
    try simp only [decide_eq_true_eq, decide_eq_false_iff_not] at hc8
    skip
    refine CW.exit ?_
    refine AQ.past_exit ?_
    refine AQ.past_exit ?_
    refine AQ.block_hit ?_
    refine AQ.next ?_
    refine CW.seq ?_
    -- region 8
    refine CW.region ?_
    refine RW.op1 rfl (runs_assign rfl) ?_
    refine RW.done ?_
    refine AQ.next ?_
    refine CW.ret ?_
    refine AQ.ret1 rfl rfl ?_
    have hyes : letsB s.toList = true := by
      unfold letsB
      rw [List.all_eq_true]
      rw [List.take_of_length_le (by omega)] at hall
      exact hall
    rw [hyes]
    exact ⟨rfl, hst⟩
set_option maxRecDepth 100000 in
set_option maxHeartbeats 1000000 in
theorem name_spec {w0 w : World} {I : Imm} {L : Own} (hst : St w0 w I L) (s : ByteArray) (hs : s.size ≤ 1000000) :
    Calls Tryd.prog 5 #[.string s] w fun e w' => e = .returned (.bool (nameB s.toList)) ∧ St w0 w' I L := by
  have hsz := size_toList s
  refine enter Tryd.func5 rfl (N := 15) rfl rfl ?_
  simp only [List.zipIdx_cons, List.zipIdx_nil, List.map_cons, List.map_nil, Nat.zero_add, Nat.reduceAdd]
  have hle := Imm.le.refl I
  refine CW.seq ?_
  -- region 0
  refine CW.region ?_
  refine RW.op1 rfl (runs_assign rfl) ?_
  refine RW.done ?_
  refine AQ.next ?_
  refine CW.seq ?_
  -- region 1
  refine CW.region ?_
  refine RW.op1 rfl (runs_move rfl) ?_
  refine RW.op1 rfl (runs_lenS Tryd.underlying9 rfl) ?_
  refine RW.op1 rfl (runs_geq rfl rfl) ?_
  refine RW.op1 rfl (runs_move rfl) ?_
  refine RW.split (t := 6) rfl (fun hb6 => ?_) (fun hb6 => ?_)
  · have hb6p := hb6
    try simp only [decide_eq_true_eq, decide_eq_false_iff_not] at hb6p
    refine RW.on_guard rfl rfl rfl rfl hb6 ?_
    refine RW.op1 rfl (runs_move rfl) ?_
    refine RW.on_guard rfl rfl rfl rfl hb6 ?_
    refine RW.op1 rfl (runs_lenS Tryd.underlying9 rfl) ?_
    refine RW.on_guard rfl rfl rfl rfl hb6 ?_
    refine RW.op1 rfl (runs_leq rfl rfl) ?_
    refine RW.op1 rfl (runs_pick_true rfl hb6 rfl) ?_
    refine RW.op1 rfl (runs_move rfl) ?_
    refine RW.split (t := 11) rfl (fun hb11 => ?_) (fun hb11 => ?_)
    · have hb11p := hb11
      try simp only [decide_eq_true_eq, decide_eq_false_iff_not] at hb11p
      refine RW.on_guard rfl rfl rfl rfl hb11 ?_
      refine RW.op1 rfl (runs_move rfl) ?_
      refine RW.on_guard rfl rfl rfl rfl hb11 ?_
      refine RW.call rfl call9 rfl rfl (letters_spec hst s hs) ?_
      rintro e w ⟨rfl, hstn⟩
      clear hst
      have hst := hstn
      clear hstn
      refine ⟨_, rfl, ?_⟩
      refine RW.op1 rfl (runs_pick_true rfl hb11 rfl) ?_
      refine RW.op1 rfl (runs_assign rfl) ?_
      refine RW.done ?_
      refine AQ.next ?_
      refine CW.ret ?_
      refine AQ.ret1 rfl rfl ?_
      refine ⟨?_, hst⟩
      unfold nameB
      first
        | (rw [decide_eq_true (show 1 ≤ s.toList.length by omega), decide_eq_true (show s.toList.length ≤ 12 by omega)]; rfl)
        | (rw [decide_eq_true (show 1 ≤ s.toList.length by omega), decide_eq_false (show ¬ s.toList.length ≤ 12 by omega)]; rfl)
        | (rw [decide_eq_false (show ¬ 1 ≤ s.toList.length by omega)]; rfl)
    · have hb11p := hb11
      try simp only [decide_eq_true_eq, decide_eq_false_iff_not] at hb11p
      refine RW.off_guard rfl rfl rfl rfl hb11 ?_
      refine RW.off_guard rfl rfl rfl rfl hb11 ?_
      refine RW.op1 rfl (runs_pick_false rfl hb11 rfl) ?_
      refine RW.op1 rfl (runs_assign rfl) ?_
      refine RW.done ?_
      refine AQ.next ?_
      refine CW.ret ?_
      refine AQ.ret1 rfl rfl ?_
      refine ⟨?_, hst⟩
      unfold nameB
      first
        | (rw [decide_eq_true (show 1 ≤ s.toList.length by omega), decide_eq_true (show s.toList.length ≤ 12 by omega)]; rfl)
        | (rw [decide_eq_true (show 1 ≤ s.toList.length by omega), decide_eq_false (show ¬ s.toList.length ≤ 12 by omega)]; rfl)
        | (rw [decide_eq_false (show ¬ 1 ≤ s.toList.length by omega)]; rfl)
  · have hb6p := hb6
    try simp only [decide_eq_true_eq, decide_eq_false_iff_not] at hb6p
    refine RW.off_guard rfl rfl rfl rfl hb6 ?_
    refine RW.off_guard rfl rfl rfl rfl hb6 ?_
    refine RW.off_guard rfl rfl rfl rfl hb6 ?_
    refine RW.op1 rfl (runs_pick_false rfl hb6 rfl) ?_
    refine RW.op1 rfl (runs_move rfl) ?_
    refine RW.off_guard rfl rfl rfl rfl rfl ?_
    refine RW.off_guard rfl rfl rfl rfl rfl ?_
    refine RW.op1 rfl (runs_pick_false rfl rfl rfl) ?_
    refine RW.op1 rfl (runs_assign rfl) ?_
    refine RW.done ?_
    refine AQ.next ?_
    refine CW.ret ?_
    refine AQ.ret1 rfl rfl ?_
    refine ⟨?_, hst⟩
    unfold nameB
    first
      | (rw [decide_eq_true (show 1 ≤ s.toList.length by omega), decide_eq_true (show s.toList.length ≤ 12 by omega)]; rfl)
      | (rw [decide_eq_true (show 1 ≤ s.toList.length by omega), decide_eq_false (show ¬ s.toList.length ≤ 12 by omega)]; rfl)
      | (rw [decide_eq_false (show ¬ 1 ≤ s.toList.length by omega)]; rfl)
theorem headIs_at {l : List UInt8} {c : UInt8} (h : 0 < l.length) : headIs l c = (l.getD 0 0 == c) := by unfold headIs; rw [decide_eq_true h, Bool.true_and]
theorem lastIs_at {l : List UInt8} {c : UInt8} (h : 0 < l.length) : lastIs l c = (l.getD (l.length - 1) 0 == c) := by unfold lastIs; rw [decide_eq_true h, Bool.true_and]
theorem byteE {a b : UInt8} : decide ((a.toNat : Int) = (b.toNat : Int)) = (a == b) := by
  by_cases h : a = b
  · subst h; simp
  · have : a.toNat ≠ b.toNat := fun e => h (UInt8.toNat_inj.1 e)
    rw [decide_eq_false (by omega)]
    simp [h]
theorem hl_0 {l : List UInt8} {c : UInt8} (h : ¬ 0 < l.length) : false = headIs l c := by unfold headIs; rw [decide_eq_false h, Bool.false_and]
theorem ll_0 {l : List UInt8} {c : UInt8} (h : ¬ 0 < l.length) : false = lastIs l c := by unfold lastIs; rw [decide_eq_false h, Bool.false_and]
set_option maxRecDepth 100000 in
set_option maxHeartbeats 1000000 in
theorem trimLB_spec {w0 w : World} {I : Imm} {L : Own} (hst : St w0 w I L) (s : ByteArray) (hs : s.size ≤ 1000000) (c : UInt8) :
    Calls Tryd.prog 12 #[.string s, .int .u8 (c.toNat : Int)] w fun e w' => ∃ t, e = .returned (.string t) ∧ (headIs s.toList c = true ∧ t.size < s.size ∨ headIs s.toList c = false ∧ t = s) ∧ St w0 w' I L := by
  refine enter Tryd.func12 rfl (N := 17) rfl rfl ?_
  simp only [List.zipIdx_cons, List.zipIdx_nil, List.map_cons, List.map_nil, Nat.zero_add, Nat.reduceAdd]
  have hle := Imm.le.refl I
  refine CW.seq ?_
  -- region 0
  refine CW.region ?_
  refine RW.op1 rfl (runs_assign rfl) ?_
  refine RW.done ?_
  refine AQ.next ?_
  refine CW.seq ?_
  refine CW.block ?_
  -- loop 1
  refine CW.loop ByteArray (fun t w => St w0 w I L ∧ (t = s ∨ headIs s.toList c = true ∧ t.size < s.size)) (fun t => [(0, .string t), (1, .int .u8 (c.toNat : Int))]) (fun t => t.size) ⟨s, ⟨hst, .inl rfl⟩, ⟨rfl, rfl, trivial⟩⟩ ?_
  rintro t w ⟨hstn, ht⟩
  clear hst
  have hst := hstn
  clear hstn
  have htz := size_toList t
  have hts : t.size ≤ s.size := by
    rcases ht with rfl | ht
    · exact Nat.le_refl _
    · omega
  refine CW.seq ?_
  refine CW.seq ?_
  -- region 1
  refine CW.cut Unit (fun _ w => St w0 w I L) (fun _ => [(0, .string t), (1, .int .u8 (c.toNat : Int)), (13, .bool (headIs t.toList c))]) ?_ ?_
  · -- region 1
    refine CW.region ?_
    refine RW.op1 rfl (runs_move rfl) ?_
    refine RW.op1 rfl (runs_lenS Tryd.underlying9 rfl) ?_
    refine RW.op1 rfl (runs_gtr rfl rfl) ?_
    refine RW.op1 rfl (runs_move rfl) ?_
    refine RW.split (t := 8) rfl (fun hb8 => ?_) (fun hb8 => ?_)
    · have hb8p := hb8
      try simp only [decide_eq_true_eq, decide_eq_false_iff_not] at hb8p
      refine RW.on_guard rfl rfl rfl rfl hb8 ?_
      refine RW.op1 rfl (runs_move rfl) ?_
      refine RW.on_guard rfl rfl rfl rfl hb8 ?_
      refine RW.op1 rfl (runs_indexL Tryd.underlying9 rfl rfl (by omega) (by omega)) ?_
      refine RW.on_guard rfl rfl rfl rfl hb8 ?_
      refine RW.op1 rfl (runs_move rfl) ?_
      refine RW.on_guard rfl rfl rfl rfl hb8 ?_
      refine RW.op1 rfl (runs_eqI rfl rfl) ?_
      refine RW.op1 rfl (runs_pick_true rfl hb8 rfl) ?_
      refine RW.done ?_
      first
        | exact AQ.meet () hst ⟨rfl, rfl, congrArg (fun z => some (Value.bool z)) (hl_0 (by omega)), trivial⟩
        | exact AQ.meet () hst ⟨rfl, rfl, congrArg (fun z => some (Value.bool z)) (by rw [headIs_at (by omega)]; exact byteE), trivial⟩
    · have hb8p := hb8
      try simp only [decide_eq_true_eq, decide_eq_false_iff_not] at hb8p
      refine RW.off_guard rfl rfl rfl rfl hb8 ?_
      refine RW.off_guard rfl rfl rfl rfl hb8 ?_
      refine RW.off_guard rfl rfl rfl rfl hb8 ?_
      refine RW.off_guard rfl rfl rfl rfl hb8 ?_
      refine RW.op1 rfl (runs_pick_false rfl hb8 rfl) ?_
      refine RW.done ?_
      first
        | exact AQ.meet () hst ⟨rfl, rfl, congrArg (fun z => some (Value.bool z)) (hl_0 (by omega)), trivial⟩
        | exact AQ.meet () hst ⟨rfl, rfl, congrArg (fun z => some (Value.bool z)) (by rw [headIs_at (by omega)]; exact byteE), trivial⟩
  · rintro _ w hstn
    clear hst
    have hst := hstn
    clear hstn
    refine AQ.next ?_
    refine CW.cond rfl (fun hc13 => ?_) (fun hc13 => ?_)
    · have hcb13 := hc13
      try simp only [decide_eq_true_eq, decide_eq_false_iff_not] at hc13
      have hpos : 0 < t.toList.length := by
        by_cases h : 0 < t.toList.length
        · exact h
        · rw [← hl_0 h] at hcb13; cases hcb13
      refine CW.skip ?_
      refine AQ.next ?_
      refine CW.block ?_
      -- region 2
      refine CW.region ?_
      refine RW.op1 rfl (runs_move rfl) ?_
      refine RW.op1 rfl (runs_sliceS_l Tryd.underlying9 rfl rfl (by omega)) ?_
      refine RW.op1 rfl (runs_assign rfl) ?_
      refine RW.done ?_
      refine AQ.block_normal ?_
      have hz : (t.extract ((1 : Int)).toNat t.size).size = t.size - 1 := by
        rw [← size_toList, extract_list, List.length_take, List.length_drop, htz]
        show min (t.size - 1) (t.size - 1) = _
        omega
      exact AQ.again (x := t) _ ⟨hst, .inr ⟨by
        rcases ht with rfl | ht
        · exact hcb13
        · exact ht.1, by omega⟩⟩ ⟨rfl, rfl, trivial⟩ (by omega)
    · have hcb13 := hc13
      try simp only [decide_eq_true_eq, decide_eq_false_iff_not] at hc13
      skip
      refine CW.exit ?_
      refine AQ.past_exit ?_
      refine AQ.past_exit ?_
      refine AQ.block_hit ?_
      refine AQ.next ?_
      refine CW.seq ?_
      -- region 3
      refine CW.region ?_
      refine RW.op1 rfl (runs_move rfl) ?_
      refine RW.op1 rfl (runs_assign rfl) ?_
      refine RW.done ?_
      refine AQ.next ?_
      refine CW.ret ?_
      refine AQ.ret1 rfl rfl ?_
      refine ⟨t, rfl, ?_, hst⟩
      rcases ht with rfl | ht
      · exact .inr ⟨hcb13, rfl⟩
      · exact .inl ht
set_option maxRecDepth 100000 in
set_option maxHeartbeats 1000000 in
theorem trimRB_spec {w0 w : World} {I : Imm} {L : Own} (hst : St w0 w I L) (s : ByteArray) (hs : s.size ≤ 1000000) (c : UInt8) :
    Calls Tryd.prog 13 #[.string s, .int .u8 (c.toNat : Int)] w fun e w' => ∃ t, e = .returned (.string t) ∧ (lastIs s.toList c = true ∧ t.size < s.size ∨ lastIs s.toList c = false ∧ t = s) ∧ St w0 w' I L := by
  refine enter Tryd.func13 rfl (N := 23) rfl rfl ?_
  simp only [List.zipIdx_cons, List.zipIdx_nil, List.map_cons, List.map_nil, Nat.zero_add, Nat.reduceAdd]
  have hle := Imm.le.refl I
  refine CW.seq ?_
  -- region 0
  refine CW.region ?_
  refine RW.op1 rfl (runs_assign rfl) ?_
  refine RW.done ?_
  refine AQ.next ?_
  refine CW.seq ?_
  refine CW.block ?_
  -- loop 1
  refine CW.loop ByteArray (fun t w => St w0 w I L ∧ (t = s ∨ lastIs s.toList c = true ∧ t.size < s.size)) (fun t => [(0, .string t), (1, .int .u8 (c.toNat : Int))]) (fun t => t.size) ⟨s, ⟨hst, .inl rfl⟩, ⟨rfl, rfl, trivial⟩⟩ ?_
  rintro t w ⟨hstn, ht⟩
  clear hst
  have hst := hstn
  clear hstn
  have htz := size_toList t
  have hts : t.size ≤ s.size := by
    rcases ht with rfl | ht
    · exact Nat.le_refl _
    · omega
  refine CW.seq ?_
  refine CW.seq ?_
  -- region 1
  refine CW.cut Unit (fun _ w => St w0 w I L) (fun _ => [(0, .string t), (1, .int .u8 (c.toNat : Int)), (16, .bool (lastIs t.toList c))]) ?_ ?_
  · -- region 1
    refine CW.region ?_
    refine RW.op1 rfl (runs_move rfl) ?_
    refine RW.op1 rfl (runs_lenS Tryd.underlying9 rfl) ?_
    refine RW.op1 rfl (runs_gtr rfl rfl) ?_
    refine RW.op1 rfl (runs_move rfl) ?_
    refine RW.split (t := 8) rfl (fun hb8 => ?_) (fun hb8 => ?_)
    · have hb8p := hb8
      try simp only [decide_eq_true_eq, decide_eq_false_iff_not] at hb8p
      refine RW.on_guard rfl rfl rfl rfl hb8 ?_
      refine RW.op1 rfl (runs_move rfl) ?_
      refine RW.on_guard rfl rfl rfl rfl hb8 ?_
      refine RW.op1 rfl (runs_move rfl) ?_
      refine RW.on_guard rfl rfl rfl rfl hb8 ?_
      refine RW.op1 rfl (runs_lenS Tryd.underlying9 rfl) ?_
      refine RW.on_guard rfl rfl rfl rfl hb8 ?_
      refine RW.op1 rfl (runs_sub rfl rfl (by omega)) ?_
      refine RW.on_guard rfl rfl rfl rfl hb8 ?_
      refine RW.op1 rfl (runs_indexL Tryd.underlying9 rfl rfl (by omega) (by omega)) ?_
      refine RW.on_guard rfl rfl rfl rfl hb8 ?_
      refine RW.op1 rfl (runs_move rfl) ?_
      refine RW.on_guard rfl rfl rfl rfl hb8 ?_
      refine RW.op1 rfl (runs_eqI rfl rfl) ?_
      refine RW.op1 rfl (runs_pick_true rfl hb8 rfl) ?_
      refine RW.done ?_
      first
        | exact AQ.meet () hst ⟨rfl, rfl, congrArg (fun z => some (Value.bool z)) (ll_0 (by omega)), trivial⟩
        | exact AQ.meet () hst ⟨rfl, rfl, congrArg (fun z => some (Value.bool z)) (by rw [lastIs_at (by omega), htz, show (((t.size : Nat) : Int) - 1).toNat = t.size - 1 by omega]; exact byteE), trivial⟩
    · have hb8p := hb8
      try simp only [decide_eq_true_eq, decide_eq_false_iff_not] at hb8p
      refine RW.off_guard rfl rfl rfl rfl hb8 ?_
      refine RW.off_guard rfl rfl rfl rfl hb8 ?_
      refine RW.off_guard rfl rfl rfl rfl hb8 ?_
      refine RW.off_guard rfl rfl rfl rfl hb8 ?_
      refine RW.off_guard rfl rfl rfl rfl hb8 ?_
      refine RW.off_guard rfl rfl rfl rfl hb8 ?_
      refine RW.off_guard rfl rfl rfl rfl hb8 ?_
      refine RW.op1 rfl (runs_pick_false rfl hb8 rfl) ?_
      refine RW.done ?_
      first
        | exact AQ.meet () hst ⟨rfl, rfl, congrArg (fun z => some (Value.bool z)) (ll_0 (by omega)), trivial⟩
        | exact AQ.meet () hst ⟨rfl, rfl, congrArg (fun z => some (Value.bool z)) (by rw [lastIs_at (by omega), htz, show (((t.size : Nat) : Int) - 1).toNat = t.size - 1 by omega]; exact byteE), trivial⟩
  · rintro _ w hstn
    clear hst
    have hst := hstn
    clear hstn
    refine AQ.next ?_
    refine CW.cond rfl (fun hc16 => ?_) (fun hc16 => ?_)
    · have hcb16 := hc16
      try simp only [decide_eq_true_eq, decide_eq_false_iff_not] at hc16
      have hpos : 0 < t.toList.length := by
        by_cases h : 0 < t.toList.length
        · exact h
        · rw [← ll_0 h] at hcb16; cases hcb16
      refine CW.skip ?_
      refine AQ.next ?_
      refine CW.block ?_
      -- region 2
      refine CW.region ?_
      refine RW.op1 rfl (runs_move rfl) ?_
      refine RW.op1 rfl (runs_move rfl) ?_
      refine RW.op1 rfl (runs_lenS Tryd.underlying9 rfl) ?_
      refine RW.op1 rfl (runs_sub rfl rfl (by omega)) ?_
      refine RW.op1 rfl (runs_sliceS_h Tryd.underlying9 rfl rfl (by omega)) ?_
      refine RW.op1 rfl (runs_assign rfl) ?_
      refine RW.done ?_
      refine AQ.block_normal ?_
      have hz : (t.extract 0 (((t.size : Nat) : Int) - 1).toNat).size = t.size - 1 := by
        rw [← size_toList, extract_list, List.length_take, List.length_drop, htz]
        omega
      exact AQ.again (x := t) _ ⟨hst, .inr ⟨by
        rcases ht with rfl | ht
        · exact hcb16
        · exact ht.1, by omega⟩⟩ ⟨rfl, rfl, trivial⟩ (by omega)
    · have hcb16 := hc16
      try simp only [decide_eq_true_eq, decide_eq_false_iff_not] at hc16
      skip
      refine CW.exit ?_
      refine AQ.past_exit ?_
      refine AQ.past_exit ?_
      refine AQ.block_hit ?_
      refine AQ.next ?_
      refine CW.seq ?_
      -- region 3
      refine CW.region ?_
      refine RW.op1 rfl (runs_move rfl) ?_
      refine RW.op1 rfl (runs_assign rfl) ?_
      refine RW.done ?_
      refine AQ.next ?_
      refine CW.ret ?_
      refine AQ.ret1 rfl rfl ?_
      refine ⟨t, rfl, ?_, hst⟩
      rcases ht with rfl | ht
      · exact .inr ⟨hcb16, rfl⟩
      · exact .inl ht
def spS : ByteArray := ⟨#[32]⟩
theorem spS_list : spS.toList = [32] := by rw [ByteArray.toList_eq]; rfl
theorem idx32 {P : Program} {l : Env} {ty : TypeId} {w : World} {t : TypeId} {x y : Operand} (ht : P.underlying t = some .string) (hx : ev l x = some (.string spS)) (hy : ev l y = some (.int .i64 0)) : Runs P (.index t x y) ty l w (.value (.int .u8 (((32 : UInt8).toNat : Nat) : Int))) w := by
  have h := runs_indexL (w := w) (ty := ty) ht hx hy (by decide) (by decide)
  rw [spS_list] at h
  exact h
def blankB (l : List UInt8) : Bool := headIs l 32 || lastIs l 32
theorem blank_nil : blankB [] = false := rfl
def valueB (l : List UInt8) : Bool := decide (l.length ≤ 16) && (!(blankB l) && l.all seenB)
theorem list_self (l : List UInt8) : (l == l) = true := by simp
theorem list_short {a b : ByteArray} (h : a.size < b.size) : (a.toList == b.toList) = false := by
  cases he : (a.toList == b.toList)
  · rfl
  · have e : a.toList = b.toList := by simpa using he
    have := congrArg List.length e
    rw [size_toList, size_toList] at this
    omega
set_option maxRecDepth 100000 in
set_option maxHeartbeats 1000000 in
theorem trimS_spec {w0 w : World} {I : Imm} {L : Own} (hst : St w0 w I L) (s : ByteArray) (hs : s.size ≤ 1000000) :
    Calls Tryd.prog 10 #[.string s, .string spS] w fun e w' => ∃ t, e = .returned (.string t) ∧ (t.toList == s.toList) = !(blankB s.toList) ∧ St w0 w' I L := by
  refine enter Tryd.func10 rfl (N := 43) rfl rfl ?_
  simp only [List.zipIdx_cons, List.zipIdx_nil, List.map_cons, List.map_nil, Nat.zero_add, Nat.reduceAdd]
  have hle := Imm.le.refl I
  refine CW.seq ?_
  -- region 0
  refine CW.region ?_
  refine RW.op1 rfl (runs_assign rfl) ?_
  refine RW.done ?_
  refine AQ.next ?_
  refine CW.seq ?_
  refine CW.seq ?_
  -- region 1
  refine CW.region ?_
  refine RW.op1 rfl (runs_move rfl) ?_
  refine RW.op1 rfl (runs_eqS rfl rfl) ?_
  refine RW.op1 rfl (runs_move rfl) ?_
  refine RW.split (t := 9) rfl (fun hb9 => ?_) (fun hb9 => ?_)
  · have hb9p := hb9
    try simp only [decide_eq_true_eq, decide_eq_false_iff_not] at hb9p
    skip
    refine RW.off_guard rfl rfl rfl rfl hb9 ?_
    refine RW.off_guard rfl rfl rfl rfl hb9 ?_
    refine RW.op1 rfl (runs_pick_true rfl hb9 rfl) ?_
    refine RW.done ?_
    refine AQ.next ?_
    refine CW.cond rfl (fun hc => ?_) (fun hc => absurd hc (by decide))
    refine CW.seq ?_
    -- region 2
    refine CW.region ?_
    refine RW.op1 rfl (runs_move rfl) ?_
    refine RW.op1 rfl (runs_assign rfl) ?_
    refine RW.done ?_
    refine AQ.next ?_
    refine CW.ret ?_
    refine AQ.past_ret ?_
    refine AQ.ret1 rfl rfl ?_
    have hs0 : s.toList = [] := by
      have h := hb9
      rw [show (ByteArray.mk #[]).toList = [] by rw [ByteArray.toList_eq]] at h
      simpa using h
    exact ⟨s, rfl, by rw [hs0]; rfl, hst⟩
  · have hb9p := hb9
    try simp only [decide_eq_true_eq, decide_eq_false_iff_not] at hb9p
    skip
    refine RW.on_guard rfl rfl rfl rfl hb9 ?_
    refine RW.op1 rfl (runs_move rfl) ?_
    refine RW.on_guard rfl rfl rfl rfl hb9 ?_
    refine RW.op1 rfl (runs_eqS rfl rfl) ?_
    refine RW.op1 rfl (runs_pick_false rfl hb9 rfl) ?_
    refine RW.done ?_
    refine AQ.next ?_
    refine CW.cond rfl (fun hc => absurd hc (by rw [spS_list, ByteArray.toList_eq]; decide)) (fun hc => ?_)
    refine CW.skip ?_
    refine AQ.next ?_
    refine CW.seq ?_
    refine CW.seq ?_
    -- region 3
    refine CW.region ?_
    refine RW.op1 rfl (runs_move rfl) ?_
    refine RW.op1 rfl (runs_lenS Tryd.underlying9 rfl) ?_
    refine RW.op1 rfl (runs_eqI rfl rfl) ?_
    refine RW.op1 rfl (runs_move rfl) ?_
    have hk17 := (show decide ((((spS).size : Nat) : Int) = 1) = true by decide)
    refine RW.on_guard rfl rfl rfl rfl hk17 ?_
    refine RW.op1 rfl (runs_move rfl) ?_
    refine RW.on_guard rfl rfl rfl rfl hk17 ?_
    refine RW.op1 rfl (idx32 Tryd.underlying9 rfl rfl) ?_
    refine RW.on_guard rfl rfl rfl rfl hk17 ?_
    refine RW.op1 rfl (runs_lss rfl rfl) ?_
    refine RW.op1 rfl (runs_pick_true rfl hk17 rfl) ?_
    refine RW.done ?_
    refine AQ.next ?_
    refine CW.cond rfl (fun hc => ?_) (fun hc => absurd hc (by decide))
    refine CW.seq ?_
    -- region 4
    refine CW.drawSt hst (.q 0 (.q 1 (.q 2 (.q 4 (.q 5 (.l 3 (.l 6 (.q 7 .nil)))))))) follows (by kernel_rfl) (fun w hst => ?_)
    refine DRW.q rfl rfl (fun w' hF => runs_move rfl) ?_
    refine DRW.q rfl rfl (fun w' hF => runs_move rfl) ?_
    refine DRW.q rfl rfl (fun w' hF => idx32 Tryd.underlying9 rfl rfl) ?_
    refine DRW.q rfl rfl (fun w' hF => runs_move rfl) ?_
    refine DRW.q rfl rfl (fun w' hF => idx32 Tryd.underlying9 rfl rfl) ?_
    refine DRW.call rfl rfl call13 rfl rfl (trimRB_spec hst s hs 32) ?_
    rintro e w ⟨t1, rfl, ht1, hstn⟩
    clear hst
    have hst := hstn
    clear hstn
    have hs1 : t1.size ≤ 1000000 := by
      rcases ht1 with h | ⟨_, rfl⟩
      · omega
      · exact hs
    refine ⟨_, rfl, FSt.of hst (Imm.le.refl _) (by first | exact (List.sublist_cons_self _ _).trans (List.sublist_append_right _ _) | exact List.Sublist.refl _ | exact List.sublist_cons_self _ _ | exact List.sublist_append_right _ _ | exact (List.sublist_cons_self _ _).trans (List.sublist_cons_self _ _) | exact (List.sublist_append_right _ _).trans (List.sublist_cons_self _ _) | simp), ?_⟩
    refine DRW.call rfl rfl call12 rfl rfl (trimLB_spec hst t1 hs1 32) ?_
    rintro e w ⟨t2, rfl, ht2, hstn⟩
    clear hst
    have hst := hstn
    clear hstn
    refine ⟨_, rfl, FSt.of hst (Imm.le.refl _) (by first | exact (List.sublist_cons_self _ _).trans (List.sublist_append_right _ _) | exact List.Sublist.refl _ | exact List.sublist_cons_self _ _ | exact List.sublist_append_right _ _ | exact (List.sublist_cons_self _ _).trans (List.sublist_cons_self _ _) | exact (List.sublist_append_right _ _).trans (List.sublist_cons_self _ _) | simp), ?_⟩
    refine DRW.q rfl rfl (fun w' hF => runs_assign rfl) ?_
    refine DRW.done ?_
    refine AQ.next ?_
    refine CW.ret ?_
    refine AQ.past_ret ?_
    refine AQ.ret1 rfl rfl ?_
    refine ⟨t2, rfl, ?_, hst⟩
    unfold blankB
    rcases ht1 with ⟨h1, h2⟩ | ⟨h1, rfl⟩
    · rw [h1, Bool.or_true]
      refine list_short ?_
      rcases ht2 with ⟨_, h⟩ | ⟨_, rfl⟩ <;> omega
    · rw [h1, Bool.or_false]
      rcases ht2 with ⟨h3, h4⟩ | ⟨h3, rfl⟩
      · rw [h3]
        exact list_short h4
      · rw [h3]
        exact list_self _
set_option maxRecDepth 100000 in
set_option maxHeartbeats 1000000 in
theorem value_spec {w0 w : World} {I : Imm} {L : Own} (hst : St w0 w I L) (s : ByteArray) (hs : s.size ≤ 1000000) :
    Calls Tryd.prog 6 #[.string s] w fun e w' => e = .returned (.bool (valueB s.toList)) ∧ St w0 w' I L := by
  have hsz := size_toList s
  refine enter Tryd.func6 rfl (N := 29) rfl rfl ?_
  simp only [List.zipIdx_cons, List.zipIdx_nil, List.map_cons, List.map_nil, Nat.zero_add, Nat.reduceAdd]
  have hle := Imm.le.refl I
  refine CW.seq ?_
  -- region 0
  refine CW.region ?_
  refine RW.op1 rfl (runs_assign rfl) ?_
  refine RW.done ?_
  refine AQ.next ?_
  refine CW.seq ?_
  refine CW.seq ?_
  -- region 1
  refine CW.region ?_
  refine RW.op1 rfl (runs_move rfl) ?_
  refine RW.op1 rfl (runs_lenS Tryd.underlying9 rfl) ?_
  refine RW.op1 rfl (runs_gtr rfl rfl) ?_
  refine RW.op1 rfl (runs_move rfl) ?_
  refine RW.split (t := 7) rfl (fun hb7 => ?_) (fun hb7 => ?_)
  · have hb7p := hb7
    try simp only [decide_eq_true_eq, decide_eq_false_iff_not] at hb7p
    refine RW.off_guard rfl rfl rfl rfl hb7 ?_
    refine RW.off_guard rfl rfl rfl rfl hb7 ?_
    refine RW.off_guard rfl rfl rfl rfl hb7 ?_
    refine RW.off_guard rfl rfl rfl rfl hb7 ?_
    refine RW.op1 rfl (runs_pick_true rfl hb7 rfl) ?_
    refine RW.done ?_
    refine AQ.next ?_
    refine CW.cond rfl (fun hc => ?_) (fun hc => absurd hc (by decide))
    refine CW.seq ?_
    -- region 2
    refine CW.region ?_
    refine RW.op1 rfl (runs_assign rfl) ?_
    refine RW.done ?_
    refine AQ.next ?_
    refine CW.ret ?_
    refine AQ.past_ret ?_
    refine AQ.ret1 rfl rfl ?_
    have hv : valueB s.toList = false := by unfold valueB; rw [decide_eq_false (show ¬ s.toList.length ≤ 16 by omega), Bool.false_and]
    rw [hv]
    exact ⟨rfl, hst⟩
  · have hb7p := hb7
    try simp only [decide_eq_true_eq, decide_eq_false_iff_not] at hb7p
    refine RW.on_guard rfl rfl rfl rfl hb7 ?_
    refine RW.op1 rfl (runs_move rfl) ?_
    refine RW.on_guard rfl rfl rfl rfl hb7 ?_
    refine RW.call rfl call10 rfl rfl (trimS_spec hst s hs) ?_
    rintro e w ⟨t, rfl, ht, hstn⟩
    clear hst
    have hst := hstn
    clear hstn
    skip
    refine ⟨_, rfl, ?_⟩
    refine RW.on_guard rfl rfl rfl rfl hb7 ?_
    refine RW.op1 rfl (runs_move rfl) ?_
    refine RW.on_guard rfl rfl rfl rfl hb7 ?_
    refine RW.op1 rfl (runs_neS rfl rfl) ?_
    rw [ht]
    refine RW.op1 rfl (runs_pick_false rfl hb7 rfl) ?_
    refine RW.done ?_
    refine AQ.next ?_
    refine CW.cond rfl (fun hc12 => ?_) (fun hc12 => ?_)
    · have hcb12 := hc12
      try simp only [decide_eq_true_eq, decide_eq_false_iff_not] at hc12
      have hbl : blankB s.toList = true := by simpa using hc12
      refine CW.seq ?_
      -- region 2
      refine CW.region ?_
      refine RW.op1 rfl (runs_assign rfl) ?_
      refine RW.done ?_
      refine AQ.next ?_
      refine CW.ret ?_
      refine AQ.past_ret ?_
      refine AQ.ret1 rfl rfl ?_
      have hv : valueB s.toList = false := by unfold valueB; rw [hbl]; simp
      rw [hv]
      exact ⟨rfl, hst⟩
    · have hcb12 := hc12
      try simp only [decide_eq_true_eq, decide_eq_false_iff_not] at hc12
      have hbl : blankB s.toList = false := by simpa using hc12
      refine CW.skip ?_
      refine AQ.next ?_
      refine CW.seq ?_
      refine CW.seq ?_
      -- region 3
      refine CW.region ?_
      refine RW.op1 rfl (runs_move rfl) ?_
      refine RW.op1 rfl (runs_lenS Tryd.underlying9 rfl) ?_
      refine RW.op1 rfl (runs_move rfl) ?_
      refine RW.done ?_
      refine AQ.next ?_
      refine CW.block ?_
      -- loop 1
      refine CW.loop Nat (fun k w => St w0 w I L ∧ k ≤ s.toList.length ∧ ∀ x ∈ s.toList.take k, seenB x = true) (fun k => [(0, .string s), (14, .int .i64 (s.size : Nat)), (15, .int .i64 (k : Nat))]) (fun k => s.toList.length - k) ⟨0, ⟨hst, Nat.zero_le _, by simp⟩, ⟨rfl, rfl, rfl, trivial⟩⟩ ?_
      rintro k w ⟨hstn, hk, hall⟩
      clear hst
      have hst := hstn
      clear hstn
      refine CW.seq ?_
      -- region 4
      refine CW.region ?_
      refine RW.op1 rfl (runs_lss rfl rfl) ?_
      refine RW.done ?_
      refine AQ.next ?_
      refine CW.seq ?_
      refine CW.cond rfl (fun hc16 => ?_) (fun hc16 => ?_)
      · have hcb16 := hc16
        try simp only [decide_eq_true_eq, decide_eq_false_iff_not] at hc16
        have hk1 : k < s.toList.length := by omega
        have hgd := get_getD hk1
        obtain ⟨c, hc⟩ : ∃ c, s.toList[k] = c := ⟨_, rfl⟩
        rw [hc] at hgd
        refine CW.skip ?_
        refine AQ.next ?_
        refine CW.seq ?_
        refine CW.block ?_
        refine CW.seq ?_
        -- region 5
        refine CW.region ?_
        refine RW.op1 rfl (runs_move rfl) ?_
        refine RW.op1 rfl (runs_assign rfl) ?_
        refine RW.done ?_
        refine AQ.next ?_
        refine CW.seq ?_
        -- region 6
        refine CW.region ?_
        refine RW.op1 rfl (runs_move rfl) ?_
        refine RW.op1 rfl (runs_move rfl) ?_
        refine RW.op1 rfl (runs_indexL Tryd.underlying9 rfl rfl (by omega) (by omega)) ?_
        rw [Int.toNat_natCast, hgd]
        refine RW.op1 rfl (runs_lss rfl rfl) ?_
        refine RW.op1 rfl (runs_move rfl) ?_
        refine RW.split (t := 22) rfl (fun hb22 => ?_) (fun hb22 => ?_)
        · have hb22p := hb22
          try simp only [decide_eq_true_eq, decide_eq_false_iff_not] at hb22p
          refine RW.off_guard rfl rfl rfl rfl hb22 ?_
          refine RW.off_guard rfl rfl rfl rfl hb22 ?_
          refine RW.off_guard rfl rfl rfl rfl hb22 ?_
          refine RW.off_guard rfl rfl rfl rfl hb22 ?_
          refine RW.op1 rfl (runs_pick_true rfl hb22 rfl) ?_
          refine RW.done ?_
          refine AQ.next ?_
          refine CW.cond_true rfl ?_
          refine CW.seq ?_
          -- region 7
          refine CW.region ?_
          refine RW.op1 rfl (runs_assign rfl) ?_
          refine RW.done ?_
          refine AQ.next ?_
          refine CW.ret ?_
          refine AQ.block_ret ?_
          refine AQ.past_ret ?_
          refine AQ.past_ret ?_
          refine AQ.block_ret ?_
          refine AQ.past_ret ?_
          refine AQ.ret1 rfl rfl ?_
          have hv : valueB s.toList = false := by
            unfold valueB
            rw [show s.toList.all seenB = false from by
              rw [List.all_eq_false]
              exact ⟨_, List.getElem_mem hk1, by rw [hc]; unfold seenB; simp; omega⟩]
            simp
          rw [hv]
          exact ⟨rfl, hst⟩
        · have hb22p := hb22
          try simp only [decide_eq_true_eq, decide_eq_false_iff_not] at hb22p
          refine RW.on_guard rfl rfl rfl rfl hb22 ?_
          refine RW.op1 rfl (runs_move rfl) ?_
          refine RW.on_guard rfl rfl rfl rfl hb22 ?_
          refine RW.op1 rfl (runs_move rfl) ?_
          refine RW.on_guard rfl rfl rfl rfl hb22 ?_
          refine RW.op1 rfl (runs_indexL Tryd.underlying9 rfl rfl (by omega) (by omega)) ?_
          rw [Int.toNat_natCast, hgd]
          refine RW.on_guard rfl rfl rfl rfl hb22 ?_
          refine RW.op1 rfl (runs_gtr rfl rfl) ?_
          refine RW.op1 rfl (runs_pick_false rfl hb22 rfl) ?_
          refine RW.done ?_
          refine AQ.next ?_
          refine CW.cond rfl (fun hc27 => ?_) (fun hc27 => ?_)
          · have hcb27 := hc27
            try simp only [decide_eq_true_eq, decide_eq_false_iff_not] at hc27
            refine CW.seq ?_
            -- region 7
            refine CW.region ?_
            refine RW.op1 rfl (runs_assign rfl) ?_
            refine RW.done ?_
            refine AQ.next ?_
            refine CW.ret ?_
            refine AQ.block_ret ?_
            refine AQ.past_ret ?_
            refine AQ.past_ret ?_
            refine AQ.block_ret ?_
            refine AQ.past_ret ?_
            refine AQ.ret1 rfl rfl ?_
            have hv : valueB s.toList = false := by
              unfold valueB
              rw [show s.toList.all seenB = false from by
                rw [List.all_eq_false]
                exact ⟨_, List.getElem_mem hk1, by rw [hc]; unfold seenB; simp; omega⟩]
              simp
            rw [hv]
            exact ⟨rfl, hst⟩
          · have hcb27 := hc27
            try simp only [decide_eq_true_eq, decide_eq_false_iff_not] at hc27
            refine CW.skip ?_
            refine AQ.block_normal ?_
            refine AQ.next ?_
            -- region 8
            refine CW.region ?_
            refine RW.op1 rfl (runs_add rfl rfl (by omega)) ?_
            refine RW.op1 rfl (runs_move rfl) ?_
            refine RW.done ?_
            exact AQ.again (x := k) (k + 1) ⟨hst, by omega, takeE_more hall hk1 (by rw [hc]; unfold seenB; simp; omega)⟩ ⟨rfl, rfl, rfl, trivial⟩ (by omega)
      · have hcb16 := hc16
        try simp only [decide_eq_true_eq, decide_eq_false_iff_not] at hc16
        skip
        refine CW.exit ?_
        refine AQ.past_exit ?_
        refine AQ.past_exit ?_
        refine AQ.block_hit ?_
        refine AQ.next ?_
        refine CW.seq ?_
        -- region 9
        refine CW.region ?_
        refine RW.op1 rfl (runs_assign rfl) ?_
        refine RW.done ?_
        refine AQ.next ?_
        refine CW.ret ?_
        refine AQ.ret1 rfl rfl ?_
        have hv : valueB s.toList = true := by
          unfold valueB
          rw [decide_eq_true (show s.toList.length ≤ 16 by omega), hbl]
          rw [List.take_of_length_le (by omega)] at hall
          simpa using hall
        rw [hv]
        exact ⟨rfl, hst⟩
def inS (xs : List ByteArray) (n : ByteArray) : Bool := xs.any fun x => n.toList == x.toList
def preS (s p : ByteArray) : Bool := decide ((p.size : Int) ≤ s.size) && ((s.extract 0 p.size).toList == p.toList)
def forbN : List ByteArray := [⟨#[104, 111, 115, 116]⟩, ⟨#[111, 114, 105, 103, 105, 110]⟩, ⟨#[114, 101, 102, 101, 114, 101, 114]⟩, ⟨#[99, 111, 111, 107, 105, 101]⟩, ⟨#[99, 111, 110, 110, 101, 99, 116, 105, 111, 110]⟩, ⟨#[114, 97, 110, 103, 101]⟩, ⟨#[105, 102, 45, 114, 97, 110, 103, 101]⟩]
def secN : ByteArray := ⟨#[115, 101, 99, 45]⟩
def proxyN : ByteArray := ⟨#[112, 114, 111, 120, 121, 45]⟩
def forbL (x : ByteArray) : Bool := inS forbN x || (preS x secN || preS x proxyN)
def forbR (s : ByteArray) : Bool := forbL (strOf (lower s.toList))
set_option maxRecDepth 100000 in
set_option maxHeartbeats 1000000 in
theorem indexS_spec {w0 w : World} {I : Imm} {L : Own} (hst : St w0 w I L) {v : Value} {xs : List ByteArray} (hv : RdS I v xs) (n : ByteArray) (hl : xs.length ≤ 1000000) :
    Calls Tryd.prog 26 #[v, .string n] w fun e w' => ∃ r : Int, e = .returned (.int .i64 r) ∧ decide (0 ≤ r) = inS xs n ∧ St w0 w' I L := by
  refine enter Tryd.func26 rfl (N := 19) rfl rfl ?_
  simp only [List.zipIdx_cons, List.zipIdx_nil, List.map_cons, List.map_nil, Nat.zero_add, Nat.reduceAdd]
  have hle := Imm.le.refl I
  refine CW.seq ?_
  -- region 0
  refine CW.region ?_
  refine RW.op1 rfl (runs_assign rfl) ?_
  refine RW.done ?_
  refine AQ.next ?_
  refine CW.seq ?_
  refine CW.seq ?_
  -- region 1
  refine CW.region ?_
  refine RW.op1 rfl (runs_move rfl) ?_
  refine RW.op1 rfl (RdL.len Tryd.underlying38 rfl hv) ?_
  refine RW.op1 rfl (runs_move rfl) ?_
  refine RW.done ?_
  refine AQ.next ?_
  refine CW.block ?_
  -- loop 1
  refine CW.loop Nat (fun k w => St w0 w I L ∧ k ≤ xs.length ∧ ∀ x ∈ xs.take k, (n.toList == x.toList) = false) (fun k => [(0, v), (1, .string n), (7, .int .i64 (xs.length : Int)), (8, .int .i64 (k : Int))]) (fun k => xs.length - k) ⟨0, ⟨hst, Nat.zero_le _, by simp⟩, ⟨rfl, rfl, rfl, rfl, trivial⟩⟩ ?_
  rintro k w ⟨hstn, hk, hno⟩
  clear hst
  have hst := hstn
  clear hstn
  refine CW.seq ?_
  -- region 2
  refine CW.region ?_
  refine RW.op1 rfl (runs_lss rfl rfl) ?_
  refine RW.done ?_
  refine AQ.next ?_
  refine CW.seq ?_
  refine CW.cond rfl (fun hc9 => ?_) (fun hc9 => ?_)
  · have hcb9 := hc9
    try simp only [decide_eq_true_eq, decide_eq_false_iff_not] at hc9
    have hk1 : k < xs.length := by omega
    have hig := sat_get hk1
    refine CW.skip ?_
    refine AQ.next ?_
    refine CW.seq ?_
    refine CW.block ?_
    refine CW.seq ?_
    -- region 3
    refine CW.region ?_
    refine RW.op1 rfl (runs_move rfl) ?_
    refine RW.op1 rfl (runs_assign rfl) ?_
    refine RW.done ?_
    refine AQ.next ?_
    refine CW.seq ?_
    -- region 4
    refine CW.region ?_
    refine RW.op1 rfl (runs_move rfl) ?_
    refine RW.op1 rfl (runs_move rfl) ?_
    refine RW.op1 rfl (runs_move rfl) ?_
    refine RW.op1 rfl (RdL.indexAddr Tryd.underlying38 ti9 (by decide) rfl rfl hv (by omega)) ?_
    refine RW.op1 rfl (runs_load1 sc9 rfl (hst.cell_imm (RdS.at hv (by omega) (by omega)))) ?_
    refine RW.op1 rfl (runs_eqS rfl rfl) ?_
    refine RW.done ?_
    refine AQ.next ?_
    refine CW.cond rfl (fun hc16 => ?_) (fun hc16 => ?_)
    · have hcb16 := hc16
      try simp only [decide_eq_true_eq, decide_eq_false_iff_not] at hc16
      refine CW.seq ?_
      -- region 5
      refine CW.region ?_
      refine RW.op1 rfl (runs_move rfl) ?_
      refine RW.op1 rfl (runs_assign rfl) ?_
      refine RW.done ?_
      refine AQ.next ?_
      refine CW.ret ?_
      refine AQ.block_ret ?_
      refine AQ.past_ret ?_
      refine AQ.past_ret ?_
      refine AQ.block_ret ?_
      refine AQ.past_ret ?_
      refine AQ.ret1 rfl rfl ?_
      exact ⟨_, rfl, by rw [decide_eq_true (show (0 : Int) ≤ k by omega)]; symm; unfold inS; rw [List.any_eq_true]; exact ⟨_, List.getElem_mem hk1, by rw [← hig]; exact hcb16⟩, hst⟩
    · have hcb16 := hc16
      try simp only [decide_eq_true_eq, decide_eq_false_iff_not] at hc16
      refine CW.skip ?_
      refine AQ.block_normal ?_
      refine AQ.next ?_
      -- region 6
      refine CW.region ?_
      refine RW.op1 rfl (runs_add rfl rfl (by omega)) ?_
      refine RW.op1 rfl (runs_move rfl) ?_
      refine RW.done ?_
      exact AQ.again (k + 1) ⟨hst, by omega, take_more hno hk1 (by rw [← hig]; exact hcb16)⟩ ⟨rfl, rfl, rfl, rfl, trivial⟩ (by omega)
  · have hcb9 := hc9
    try simp only [decide_eq_true_eq, decide_eq_false_iff_not] at hc9
    skip
    refine CW.exit ?_
    refine AQ.past_exit ?_
    refine AQ.past_exit ?_
    refine AQ.block_hit ?_
    refine AQ.next ?_
    refine CW.seq ?_
    -- region 7
    refine CW.region ?_
    refine RW.op1 rfl (runs_assign rfl) ?_
    refine RW.done ?_
    refine AQ.next ?_
    refine CW.ret ?_
    refine AQ.ret1 rfl rfl ?_
    refine ⟨_, rfl, ?_, hst⟩
    rw [List.take_of_length_le (by omega)] at hno
    rw [decide_eq_false (show ¬ (0 : Int) ≤ -1 by decide)]
    symm
    unfold inS
    rw [List.any_eq_false]
    intro x hx
    rw [hno x hx]
    decide
set_option maxRecDepth 100000 in
set_option maxHeartbeats 1000000 in
theorem containsS_spec {w0 w : World} {I : Imm} {L : Own} (hst : St w0 w I L) {v : Value} {xs : List ByteArray} (hv : RdS I v xs) (n : ByteArray) (hl : xs.length ≤ 1000000) :
    Calls Tryd.prog 20 #[v, .string n] w fun e w' => e = .returned (.bool (inS xs n)) ∧ St w0 w' I L := by
  refine enter Tryd.func20 rfl (N := 9) rfl rfl ?_
  simp only [List.zipIdx_cons, List.zipIdx_nil, List.map_cons, List.map_nil, Nat.zero_add, Nat.reduceAdd]
  have hle := Imm.le.refl I
  refine CW.seq ?_
  -- region 0
  refine CW.region ?_
  refine RW.op1 rfl (runs_assign rfl) ?_
  refine RW.done ?_
  refine AQ.next ?_
  refine CW.seq ?_
  -- region 1
  refine CW.region ?_
  refine RW.op1 rfl (runs_move rfl) ?_
  refine RW.op1 rfl (runs_move rfl) ?_
  refine RW.call rfl call26 rfl rfl (indexS_spec hst hv n hl) ?_
  rintro e w ⟨r, rfl, hr, hstn⟩
  clear hst
  have hst := hstn
  clear hstn
  refine ⟨_, rfl, ?_⟩
  refine RW.op1 rfl (runs_geq rfl rfl) ?_
  refine RW.op1 rfl (runs_assign rfl) ?_
  refine RW.done ?_
  refine AQ.next ?_
  refine CW.ret ?_
  refine AQ.ret1 rfl rfl ?_
  exact ⟨by rw [hr], hst⟩
set_option maxRecDepth 100000 in
set_option maxHeartbeats 1000000 in
theorem hasPrefix0_spec {w0 w : World} {I : Imm} {L : Own} (hst : St w0 w I L) (s p : ByteArray) (hs : s.size ≤ 9223372036854775807) (hp : p.size ≤ 9223372036854775807) :
    Calls Tryd.prog 27 #[.string s, .string p] w fun e w' => e = .returned (.bool (preS s p)) ∧ St w0 w' I L := by
  refine enter Tryd.func27 rfl (N := 18) rfl rfl ?_
  simp only [List.zipIdx_cons, List.zipIdx_nil, List.map_cons, List.map_nil, Nat.zero_add, Nat.reduceAdd]
  have hle := Imm.le.refl I
  refine CW.seq ?_
  -- region 0
  refine CW.region ?_
  refine RW.op1 rfl (runs_assign rfl) ?_
  refine RW.done ?_
  refine AQ.next ?_
  refine CW.seq ?_
  -- region 1
  refine CW.region ?_
  refine RW.op1 rfl (runs_move rfl) ?_
  refine RW.op1 rfl (runs_lenS Tryd.underlying9 rfl) ?_
  refine RW.op1 rfl (runs_move rfl) ?_
  refine RW.op1 rfl (runs_lenS Tryd.underlying9 rfl) ?_
  refine RW.op1 rfl (runs_geq rfl rfl) ?_
  refine RW.op1 rfl (runs_move rfl) ?_
  refine RW.split (t := 10) rfl (fun hb10 => ?_) (fun hb10 => ?_)
  · have hb10p := hb10
    try simp only [decide_eq_true_eq, decide_eq_false_iff_not] at hb10p
    refine RW.on_guard rfl rfl rfl rfl hb10 ?_
    refine RW.op1 rfl (runs_move rfl) ?_
    refine RW.on_guard rfl rfl rfl rfl hb10 ?_
    refine RW.op1 rfl (runs_move rfl) ?_
    refine RW.on_guard rfl rfl rfl rfl hb10 ?_
    refine RW.op1 rfl (runs_lenS Tryd.underlying9 rfl) ?_
    refine RW.on_guard rfl rfl rfl rfl hb10 ?_
    refine RW.op1 rfl (runs_sliceS_h Tryd.underlying9 rfl rfl (by omega)) ?_
    refine RW.on_guard rfl rfl rfl rfl hb10 ?_
    refine RW.op1 rfl (runs_move rfl) ?_
    refine RW.on_guard rfl rfl rfl rfl hb10 ?_
    refine RW.op1 rfl (runs_eqS rfl rfl) ?_
    refine RW.op1 rfl (runs_pick_true rfl hb10 rfl) ?_
    refine RW.op1 rfl (runs_assign rfl) ?_
    refine RW.done ?_
    refine AQ.next ?_
    refine CW.ret ?_
    refine AQ.ret1 rfl rfl ?_
    refine ⟨?_, hst⟩
    unfold preS
    simp only [hb10p, decide_true, Bool.true_and, Int.toNat_natCast]
  · have hb10p := hb10
    try simp only [decide_eq_true_eq, decide_eq_false_iff_not] at hb10p
    refine RW.off_guard rfl rfl rfl rfl hb10 ?_
    refine RW.off_guard rfl rfl rfl rfl hb10 ?_
    refine RW.off_guard rfl rfl rfl rfl hb10 ?_
    refine RW.off_guard rfl rfl rfl rfl hb10 ?_
    refine RW.off_guard rfl rfl rfl rfl hb10 ?_
    refine RW.off_guard rfl rfl rfl rfl hb10 ?_
    refine RW.op1 rfl (runs_pick_false rfl hb10 rfl) ?_
    refine RW.op1 rfl (runs_assign rfl) ?_
    refine RW.done ?_
    refine AQ.next ?_
    refine CW.ret ?_
    refine AQ.ret1 rfl rfl ?_
    refine ⟨?_, hst⟩
    unfold preS
    simp only [hb10p, decide_false, Bool.false_and]
set_option maxRecDepth 100000 in
set_option maxHeartbeats 1000000 in
theorem hasPrefix_spec {w0 w : World} {I : Imm} {L : Own} (hst : St w0 w I L) (s p : ByteArray) (hs : s.size ≤ 9223372036854775807) (hp : p.size ≤ 9223372036854775807) :
    Calls Tryd.prog 21 #[.string s, .string p] w fun e w' => e = .returned (.bool (preS s p)) ∧ St w0 w' I L := by
  refine enter Tryd.func21 rfl (N := 8) rfl rfl ?_
  simp only [List.zipIdx_cons, List.zipIdx_nil, List.map_cons, List.map_nil, Nat.zero_add, Nat.reduceAdd]
  have hle := Imm.le.refl I
  refine CW.seq ?_
  -- region 0
  refine CW.region ?_
  refine RW.op1 rfl (runs_assign rfl) ?_
  refine RW.done ?_
  refine AQ.next ?_
  refine CW.seq ?_
  -- region 1
  refine CW.region ?_
  refine RW.op1 rfl (runs_move rfl) ?_
  refine RW.op1 rfl (runs_move rfl) ?_
  refine RW.call rfl call27 rfl rfl (hasPrefix0_spec hst s p hs hp) ?_
  rintro e w ⟨rfl, hstn⟩
  clear hst
  have hst := hstn
  clear hstn
  refine ⟨_, rfl, ?_⟩
  refine RW.op1 rfl (runs_assign rfl) ?_
  refine RW.done ?_
  refine AQ.next ?_
  refine CW.ret ?_
  refine AQ.ret1 rfl rfl ?_
  exact ⟨rfl, hst⟩
set_option maxRecDepth 100000 in
set_option maxHeartbeats 1000000 in
theorem forbidden_spec {w0 w : World} {I : Imm} {L : Own} (hst : St w0 w I L) (s : ByteArray) (hs : s.size ≤ 9223372036854775807) :
    Calls Tryd.prog 11 #[.string s] w fun e w' => ∃ I', Imm.le I I' ∧ e = .returned (.bool (forbR s)) ∧ St w0 w' I' L := by
  refine enter Tryd.func11 rfl (N := 17) rfl rfl ?_
  simp only [List.zipIdx_cons, List.zipIdx_nil, List.map_cons, List.map_nil, Nat.zero_add, Nat.reduceAdd]
  have hle := Imm.le.refl I
  refine CW.seq ?_
  -- region 0
  refine CW.region ?_
  refine RW.op1 rfl (runs_assign rfl) ?_
  refine RW.done ?_
  refine AQ.next ?_
  refine CW.seq ?_
  -- region 1
  refine CW.region ?_
  refine RW.op1 rfl (runs_move rfl) ?_
  refine RW.call rfl call19 rfl rfl (lower_spec hst s hs) ?_
  rintro e w ⟨I1, hI1, rfl, hstn⟩
  clear hst
  have hst := hstn
  clear hstn
  have hsz : (strOf (lower s.toList)).size ≤ 9223372036854775807 := by
    show (lower s.toList).toArray.size ≤ _
    rw [List.size_toArray]; unfold lower; rw [List.length_map, size_toList]; exact hs
  replace hle := hle.trans hI1
  refine ⟨_, rfl, ?_⟩
  refine RW.op1 rfl (runs_assign rfl) ?_
  refine RW.done ?_
  refine AQ.next ?_
  refine CW.seq ?_
  -- region 2
  refine CW.region ?_
  refine RW.opE rfl (runs_lit1R Tryd.underlying38 ti9 (by decide) rfl rfl rfl (by simp [Value.oneCell']) hst) ?_
  rintro u2 w ⟨I2, hI2, hstn, h2⟩
  clear hst
  have hst := hstn
  clear hstn
  replace hle := hle.trans hI2
  have hF : RdS _ u2 forbN := h2
  refine RW.op1 rfl (runs_move rfl) ?_
  refine RW.call rfl call20 rfl rfl (containsS_spec hst hF (strOf (lower s.toList)) (by decide)) ?_
  rintro e w ⟨rfl, hstn⟩
  clear hst
  have hst := hstn
  clear hstn
  refine ⟨_, rfl, ?_⟩
  refine RW.op1 rfl (runs_move rfl) ?_
  refine RW.split (t := 9) rfl (fun hb9 => ?_) (fun hb9 => ?_)
  · have hb9p := hb9
    try simp only [decide_eq_true_eq, decide_eq_false_iff_not] at hb9p
    refine RW.off_guard rfl rfl rfl rfl hb9 ?_
    refine RW.off_guard rfl rfl rfl rfl hb9 ?_
    refine RW.op1 rfl (runs_pick_true rfl hb9 rfl) ?_
    refine RW.op1 rfl (runs_move rfl) ?_
    refine RW.off_guard rfl rfl rfl rfl rfl ?_
    refine RW.off_guard rfl rfl rfl rfl rfl ?_
    refine RW.op1 rfl (runs_pick_true rfl rfl rfl) ?_
    refine RW.op1 rfl (runs_assign rfl) ?_
    refine RW.done ?_
    refine AQ.next ?_
    refine CW.ret ?_
    refine AQ.ret1 rfl rfl ?_
    refine ⟨_, hle, ?_, hst⟩
    unfold forbR forbL
    first
      | (rw [show inS forbN (strOf (lower s.toList)) = true by assumption]; rfl)
      | (rw [show inS forbN (strOf (lower s.toList)) = false by assumption, show preS (strOf (lower s.toList)) secN = true by assumption]; rfl)
      | (rw [show inS forbN (strOf (lower s.toList)) = false by assumption, show preS (strOf (lower s.toList)) secN = false by assumption]; rfl)
  · have hb9p := hb9
    try simp only [decide_eq_true_eq, decide_eq_false_iff_not] at hb9p
    refine RW.on_guard rfl rfl rfl rfl hb9 ?_
    refine RW.op1 rfl (runs_move rfl) ?_
    refine RW.on_guard rfl rfl rfl rfl hb9 ?_
    refine RW.call rfl call21 rfl rfl (hasPrefix_spec hst (strOf (lower s.toList)) secN hsz (by decide)) ?_
    rintro e w ⟨rfl, hstn⟩
    clear hst
    have hst := hstn
    clear hstn
    refine ⟨_, rfl, ?_⟩
    refine RW.op1 rfl (runs_pick_false rfl hb9 rfl) ?_
    refine RW.op1 rfl (runs_move rfl) ?_
    refine RW.split (t := 13) rfl (fun hb13 => ?_) (fun hb13 => ?_)
    · have hb13p := hb13
      try simp only [decide_eq_true_eq, decide_eq_false_iff_not] at hb13p
      refine RW.off_guard rfl rfl rfl rfl hb13 ?_
      refine RW.off_guard rfl rfl rfl rfl hb13 ?_
      refine RW.op1 rfl (runs_pick_true rfl hb13 rfl) ?_
      refine RW.op1 rfl (runs_assign rfl) ?_
      refine RW.done ?_
      refine AQ.next ?_
      refine CW.ret ?_
      refine AQ.ret1 rfl rfl ?_
      refine ⟨_, hle, ?_, hst⟩
      unfold forbR forbL
      first
        | (rw [show inS forbN (strOf (lower s.toList)) = true by assumption]; rfl)
        | (rw [show inS forbN (strOf (lower s.toList)) = false by assumption, show preS (strOf (lower s.toList)) secN = true by assumption]; rfl)
        | (rw [show inS forbN (strOf (lower s.toList)) = false by assumption, show preS (strOf (lower s.toList)) secN = false by assumption]; rfl)
    · have hb13p := hb13
      try simp only [decide_eq_true_eq, decide_eq_false_iff_not] at hb13p
      refine RW.on_guard rfl rfl rfl rfl hb13 ?_
      refine RW.op1 rfl (runs_move rfl) ?_
      refine RW.on_guard rfl rfl rfl rfl hb13 ?_
      refine RW.call rfl call21 rfl rfl (hasPrefix_spec hst (strOf (lower s.toList)) proxyN hsz (by decide)) ?_
      rintro e w ⟨rfl, hstn⟩
      clear hst
      have hst := hstn
      clear hstn
      refine ⟨_, rfl, ?_⟩
      refine RW.op1 rfl (runs_pick_false rfl hb13 rfl) ?_
      refine RW.op1 rfl (runs_assign rfl) ?_
      refine RW.done ?_
      refine AQ.next ?_
      refine CW.ret ?_
      refine AQ.ret1 rfl rfl ?_
      refine ⟨_, hle, ?_, hst⟩
      unfold forbR forbL
      first
        | (rw [show inS forbN (strOf (lower s.toList)) = true by assumption]; rfl)
        | (rw [show inS forbN (strOf (lower s.toList)) = false by assumption, show preS (strOf (lower s.toList)) secN = true by assumption]; rfl)
        | (rw [show inS forbN (strOf (lower s.toList)) = false by assumption, show preS (strOf (lower s.toList)) secN = false by assumption]; rfl)
theorem forb_host : forbR ⟨#[72, 111, 115, 116]⟩ = true := by
  unfold forbR
  rw [ByteArray.toList_eq]
  unfold forbL inS preS
  simp only [ByteArray.toList_eq]
  rfl
theorem forb_hosts : forbR ⟨#[72, 111, 115, 116, 115]⟩ = false := by
  unfold forbR
  rw [ByteArray.toList_eq]
  unfold forbL inS preS
  simp only [ByteArray.toList_eq]
  rfl
set_option maxRecDepth 100000 in
set_option maxHeartbeats 1000000 in
theorem wakes08_spec {w0 w : World} {I : Imm} {L : Own} (hst : St w0 w I L) :
    Calls Tryd.prog 7 #[] w fun e w' => ∃ I', Imm.le I I' ∧ e = .returned (.bool true) ∧ St w0 w' I' L := by
  refine enter Tryd.func7 rfl (N := 6) rfl rfl ?_
  simp only [List.zipIdx_cons, List.zipIdx_nil, List.map_cons, List.map_nil, Nat.zero_add, Nat.reduceAdd]
  have hle := Imm.le.refl I
  refine CW.seq ?_
  -- region 0
  refine CW.region ?_
  refine RW.op1 rfl (runs_assign rfl) ?_
  refine RW.done ?_
  refine AQ.next ?_
  refine CW.seq ?_
  -- region 1
  refine CW.region ?_
  refine RW.call rfl call11 rfl rfl (forbidden_spec hst ⟨#[72, 111, 115, 116]⟩ (by decide)) ?_
  rintro e w ⟨I1, hI1, rfl, hstn⟩
  clear hst
  have hst := hstn
  clear hstn
  replace hle := hle.trans hI1
  refine ⟨_, rfl, ?_⟩
  refine RW.op1 rfl (runs_move rfl) ?_
  have hk2 := forb_host
  refine RW.on_guard rfl rfl rfl rfl hk2 ?_
  refine RW.call rfl call11 rfl rfl (forbidden_spec hst ⟨#[72, 111, 115, 116, 115]⟩ (by decide)) ?_
  rintro e w ⟨I2, hI2, rfl, hstn⟩
  clear hst
  have hst := hstn
  clear hstn
  replace hle := hle.trans hI2
  refine ⟨_, rfl, ?_⟩
  refine RW.on_guard rfl rfl rfl rfl hk2 ?_
  refine RW.op1 rfl (runs_not rfl) ?_
  refine RW.op1 rfl (runs_pick_true rfl hk2 rfl) ?_
  refine RW.op1 rfl (runs_assign rfl) ?_
  refine RW.done ?_
  refine AQ.next ?_
  refine CW.ret ?_
  refine AQ.ret1 rfl rfl ?_
  exact ⟨_, hle, by rw [forb_hosts]; rfl, hst⟩
def okV (l : List UInt8) (j : Nat) : Bool := seenB (l.getD j 0) && !(l.getD j 0 == 32 && (decide (j = 0) || decide (j = l.length - 1)))
def valTo (l : List UInt8) (k : Nat) : Bool := decide (l.length ≤ 16) && (List.range k).all (okV l)
def namTo (l : List UInt8) (k : Nat) : Bool := decide (1 ≤ l.length) && decide (l.length ≤ 12) && (l.take k).all letB
theorem namTo_next {l : List UInt8} {k : Nat} (h : k < l.length) : namTo l (k + 1) = (namTo l k && letB (l.getD k 0)) := by
  unfold namTo
  rw [List.take_add_one, List.getElem?_eq_getElem h, List.all_append, get_getD h, Bool.and_assoc, Bool.and_assoc, Bool.and_assoc]
  simp
theorem nam0_t {s : ByteArray} (h : (1 : Int) ≤ (s.size : Nat)) : decide (((s.size : Nat) : Int) ≤ 12) = namTo s.toList 0 := by
  have hz := size_toList s
  unfold namTo
  rw [decide_eq_true (show 1 ≤ s.toList.length by omega), Bool.true_and, List.take_zero, List.all_nil, Bool.and_true, hz]
  exact decide_eq_decide.2 (by omega)
theorem nam0_f {s : ByteArray} (h : ¬ (1 : Int) ≤ (s.size : Nat)) : false = namTo s.toList 0 := by
  have hz := size_toList s
  unfold namTo
  rw [decide_eq_false (show ¬ 1 ≤ s.toList.length by omega), Bool.false_and, Bool.false_and]
theorem val0 (s : ByteArray) : decide (((s.size : Nat) : Int) ≤ 16) = valTo s.toList 0 := by
  have hz := size_toList s
  unfold valTo
  rw [List.range_zero, List.all_nil, Bool.and_true, hz]
  exact decide_eq_decide.2 (by omega)
def okP (c : Int) (k n : Int) : Prop := 32 ≤ c ∧ c ≤ 126 ∧ ¬ (c = 32 ∧ (k = 0 ∨ k = n - 1))
instance (c k n : Int) : Decidable (okP c k n) := by unfold okP; infer_instance
theorem valTo_next {l : List UInt8} {k : Nat} : valTo l (k + 1) = (valTo l k && okV l k) := by
  unfold valTo
  rw [List.range_succ, List.all_append, Bool.and_assoc]
  simp
theorem okV_P {l : List UInt8} {k : Nat} (hk : k < l.length) : okV l k = decide (okP ((l.getD k 0).toNat : Int) (k : Int) (l.length : Int)) := by
  rw [Bool.eq_iff_iff, decide_eq_true_iff]
  unfold okV okP seenB
  have e : (l.getD k 0 == 32) = decide (((l.getD k 0).toNat : Int) = 32) := by
    have := byteE (a := l.getD k 0) (b := 32)
    rw [← this]
    rfl
  rw [e]
  simp only [Bool.and_eq_true, Bool.not_eq_true', Bool.and_eq_false_iff, Bool.or_eq_false_iff, decide_eq_true_eq, decide_eq_false_iff_not]
  omega
theorem valTo_P {l : List UInt8} {k : Nat} (hk : k < l.length) : decide (valTo l k = true ∧ okP ((l.getD k 0).toNat : Int) (k : Int) (l.length : Int)) = valTo l (k + 1) := by
  rw [valTo_next, okV_P hk]
  cases valTo l k <;> simp
theorem namTo_end {l : List UInt8} {k : Nat} (h : l.length ≤ k) : namTo l k = nameB l := by
  unfold namTo nameB letsB
  rw [List.take_of_length_le h, Bool.and_assoc]
theorem valTo_end (l : List UInt8) : valTo l l.length = valueB l := by
  unfold valTo valueB
  congr 1
  rw [Bool.eq_iff_iff, Bool.and_eq_true, List.all_eq_true, List.all_eq_true, Bool.not_eq_true']
  unfold blankB
  rw [Bool.or_eq_false_iff]
  constructor
  · intro h
    refine ⟨⟨?_, ?_⟩, fun x hx => ?_⟩
    · by_cases hp : 0 < l.length
      · rw [headIs_at hp]
        have := h 0 (List.mem_range.2 hp)
        unfold okV at this
        cases hc : (l.getD 0 0 == 32)
        · rfl
        · rw [hc] at this; simp at this
      · exact (hl_0 hp).symm
    · by_cases hp : 0 < l.length
      · rw [lastIs_at hp]
        have := h (l.length - 1) (List.mem_range.2 (by omega))
        unfold okV at this
        cases hc : (l.getD (l.length - 1) 0 == 32)
        · rfl
        · rw [hc] at this; simp at this
      · exact (ll_0 hp).symm
    · obtain ⟨j, hj, rfl⟩ := List.getElem_of_mem hx
      have := h j (List.mem_range.2 hj)
      unfold okV at this
      rw [get_getD hj, Bool.and_eq_true] at this
      exact this.1
  · rintro ⟨⟨h1, h2⟩, h3⟩ j hj
    have hj := List.mem_range.1 hj
    unfold okV
    rw [Bool.and_eq_true]
    refine ⟨by rw [get_getD hj]; exact h3 _ (List.getElem_mem hj), ?_⟩
    rw [Bool.not_eq_true']
    by_cases j0 : j = 0
    · subst j0
      rw [headIs_at hj] at h1
      rw [h1]
      rfl
    · by_cases jl : j = l.length - 1
      · subst jl
        rw [lastIs_at (by omega)] at h2
        rw [h2]
        rfl
      · rw [decide_eq_false j0, decide_eq_false jl]
        simp
theorem name_one (c : UInt8) : nameB [c] = letB c := by
  unfold nameB letsB
  simp
theorem cut_one {s : ByteArray} {k : Nat} (h : k < s.toList.length) : (s.extract ((k : Int)).toNat (((k : Int) + 1)).toNat).toList = [s.toList.getD k 0] := by
  rw [extract_list, Int.toNat_natCast, show ((k : Int) + 1).toNat - k = 1 by omega, get_getD h, List.drop_eq_getElem_cons h]
  rfl
set_option maxRecDepth 100000 in
set_option maxHeartbeats 1000000 in
theorem hletters_spec {w0 w : World} {I : Imm} {L : Own} (hst : St w0 w I L) {vb : Value} {bs : List UInt8} (hb : RdB I vb bs) (n : Int) (hn : i64ok n) :
    Calls Tryd.prog 3 #[vb, .int .i64 n] w fun e w' => e = .returned (.bool true) ∧ ∃ I', I.le I' ∧ St w0 w' I' L := by
  refine enter Tryd.func3 rfl (N := 121) rfl rfl ?_
  simp only [List.zipIdx_cons, List.zipIdx_nil, List.map_cons, List.map_nil, Nat.zero_add, Nat.reduceAdd]
  have hle := Imm.le.refl I
  refine CW.seq ?_
  -- region 0
  refine CW.region ?_
  refine RW.op1 rfl (runs_assign rfl) ?_
  refine RW.done ?_
  refine AQ.next ?_
  refine CW.seq ?_
  -- region 1
  refine CW.region ?_
  refine RW.op1 rfl (runs_move rfl) ?_
  refine RW.call rfl call4 rfl rfl (cut_spec hst hb (n := 20) (by decide)) ?_
  rintro e w ⟨I1, vc, hI1, rfl, hstn, hC⟩
  clear hst
  have hst := hstn
  clear hstn
  replace hb := hb.mono hI1
  replace hle := hle.trans hI1
  refine ⟨_, rfl, ?_⟩
  refine RW.op1 rfl (RdB.string Tryd.underlying22 Tryd.underlying5 Tryd.underlying9 rfl hC hst) ?_
  obtain ⟨s, hs⟩ : ∃ s, strOf (bs.take ((20 : Int)).toNat) = s := ⟨_, rfl⟩
  have hsl : s.size ≤ 20 := by rw [← hs, ← size_toList, strOf_toList, List.length_take]; show min 20 _ ≤ 20; omega
  rw [hs]
  have hsz := size_toList s
  refine RW.op1 rfl (runs_assign rfl) ?_
  refine RW.done ?_
  refine AQ.next ?_
  refine CW.seq ?_
  -- region 2
  refine CW.cut Unit (fun _ w => St w0 w I1 L) (fun _ => [(1, .int .i64 n), (5, .string s), (6, .bool (namTo s.toList 0)), (7, .bool (valTo s.toList 0))]) ?_ ?_
  · -- region 2
    refine CW.region ?_
    refine RW.op1 rfl (runs_move rfl) ?_
    refine RW.op1 rfl (runs_lenS Tryd.underlying9 rfl) ?_
    refine RW.op1 rfl (runs_geq rfl rfl) ?_
    refine RW.op1 rfl (runs_move rfl) ?_
    refine RW.split (t := 19) rfl (fun hb19 => ?_) (fun hb19 => ?_)
    · have hb19p := hb19
      try simp only [decide_eq_true_eq, decide_eq_false_iff_not] at hb19p
      refine RW.on_guard rfl rfl rfl rfl hb19 ?_
      refine RW.op1 rfl (runs_move rfl) ?_
      refine RW.on_guard rfl rfl rfl rfl hb19 ?_
      refine RW.op1 rfl (runs_lenS Tryd.underlying9 rfl) ?_
      refine RW.on_guard rfl rfl rfl rfl hb19 ?_
      refine RW.op1 rfl (runs_leq rfl rfl) ?_
      refine RW.op1 rfl (runs_pick_true rfl hb19 rfl) ?_
      refine RW.op1 rfl (runs_move rfl) ?_
      refine RW.op1 rfl (runs_lenS Tryd.underlying9 rfl) ?_
      refine RW.op1 rfl (runs_leq rfl rfl) ?_
      refine RW.op1 rfl (runs_assign rfl) ?_
      refine RW.op1 rfl (runs_assign rfl) ?_
      refine RW.done ?_
      exact AQ.meet () hst ⟨rfl, rfl, congrArg (fun z => some (Value.bool z)) (by first | exact nam0_t (by omega) | exact nam0_f (by omega)), congrArg (fun z => some (Value.bool z)) (val0 s), trivial⟩
    · have hb19p := hb19
      try simp only [decide_eq_true_eq, decide_eq_false_iff_not] at hb19p
      refine RW.off_guard rfl rfl rfl rfl hb19 ?_
      refine RW.off_guard rfl rfl rfl rfl hb19 ?_
      refine RW.off_guard rfl rfl rfl rfl hb19 ?_
      refine RW.op1 rfl (runs_pick_false rfl hb19 rfl) ?_
      refine RW.op1 rfl (runs_move rfl) ?_
      refine RW.op1 rfl (runs_lenS Tryd.underlying9 rfl) ?_
      refine RW.op1 rfl (runs_leq rfl rfl) ?_
      refine RW.op1 rfl (runs_assign rfl) ?_
      refine RW.op1 rfl (runs_assign rfl) ?_
      refine RW.done ?_
      exact AQ.meet () hst ⟨rfl, rfl, congrArg (fun z => some (Value.bool z)) (by first | exact nam0_t (by omega) | exact nam0_f (by omega)), congrArg (fun z => some (Value.bool z)) (val0 s), trivial⟩
  · rintro _ w hstn
    clear hst
    have hst := hstn
    clear hstn
    refine AQ.next ?_
    refine CW.seq ?_
    refine CW.seq ?_
    -- region 3
    refine CW.region ?_
    refine RW.op1 rfl (runs_assign rfl) ?_
    refine RW.done ?_
    refine AQ.next ?_
    refine CW.block ?_
    -- loop 1
    refine CW.loop Nat (fun k w => St w0 w I1 L ∧ k ≤ s.toList.length) (fun k => [(1, .int .i64 n), (5, .string s), (6, .bool (namTo s.toList k)), (7, .bool (valTo s.toList k)), (8, .int .i64 (k : Nat))]) (fun k => s.toList.length - k) ⟨0, ⟨hst, Nat.zero_le _⟩, ⟨rfl, rfl, rfl, rfl, rfl, trivial⟩⟩ ?_
    rintro k w ⟨hstn, hk⟩
    clear hst
    have hst := hstn
    clear hstn
    refine CW.seq ?_
    refine CW.seq ?_
    -- region 4
    refine CW.region ?_
    refine RW.op1 rfl (runs_move rfl) ?_
    refine RW.op1 rfl (runs_move rfl) ?_
    refine RW.op1 rfl (runs_lenS Tryd.underlying9 rfl) ?_
    refine RW.op1 rfl (runs_lss rfl rfl) ?_
    refine RW.done ?_
    refine AQ.next ?_
    refine CW.cond rfl (fun hc30 => ?_) (fun hc30 => ?_)
    · have hcb30 := hc30
      try simp only [decide_eq_true_eq, decide_eq_false_iff_not] at hc30
      have hk1 : k < s.toList.length := by omega
      refine CW.skip ?_
      refine AQ.next ?_
      refine CW.seq ?_
      refine CW.block ?_
      refine CW.seq ?_
      -- region 6
      refine CW.cut Unit (fun _ w => St w0 w I1 L) (fun _ => [(1, .int .i64 n), (5, .string s), (6, .bool (namTo s.toList (k + 1))), (7, .bool (valTo s.toList k)), (8, .int .i64 (k : Nat))]) ?_ ?_
      · -- region 6
        refine CW.region ?_
        refine RW.op1 rfl (runs_move rfl) ?_
        refine RW.op1 rfl (runs_move rfl) ?_
        refine RW.split (t := 34) rfl (fun hb34 => ?_) (fun hb34 => ?_)
        · have hb34p := hb34
          try simp only [decide_eq_true_eq, decide_eq_false_iff_not] at hb34p
          refine RW.on_guard rfl rfl rfl rfl hb34 ?_
          refine RW.op1 rfl (runs_move rfl) ?_
          refine RW.on_guard rfl rfl rfl rfl hb34 ?_
          refine RW.op1 rfl (runs_move rfl) ?_
          refine RW.on_guard rfl rfl rfl rfl hb34 ?_
          refine RW.op1 rfl (runs_move rfl) ?_
          refine RW.on_guard rfl rfl rfl rfl hb34 ?_
          refine RW.op1 rfl (runs_add rfl rfl (by omega)) ?_
          refine RW.on_guard rfl rfl rfl rfl hb34 ?_
          refine RW.op1 rfl (runs_sliceS_lh Tryd.underlying9 rfl rfl rfl (by omega)) ?_
          refine RW.on_guard rfl rfl rfl rfl hb34 ?_
          refine RW.call rfl call5 rfl rfl (name_spec hst _ (by rw [← size_toList, cut_one hk1]; show 1 ≤ 1000000; decide)) ?_
          rintro e w ⟨rfl, hstn⟩
          clear hst
          have hst := hstn
          clear hstn
          rw [cut_one hk1, name_one]
          refine ⟨_, rfl, ?_⟩
          refine RW.op1 rfl (runs_pick_true rfl hb34 rfl) ?_
          refine RW.op1 rfl (runs_assign rfl) ?_
          refine RW.done ?_
          exact AQ.meet () hst ⟨rfl, rfl, congrArg (fun z => some (Value.bool z)) (by rw [namTo_next hk1, hb34]; rfl), rfl, rfl, trivial⟩
        · have hb34p := hb34
          try simp only [decide_eq_true_eq, decide_eq_false_iff_not] at hb34p
          refine RW.off_guard rfl rfl rfl rfl hb34 ?_
          refine RW.off_guard rfl rfl rfl rfl hb34 ?_
          refine RW.off_guard rfl rfl rfl rfl hb34 ?_
          refine RW.off_guard rfl rfl rfl rfl hb34 ?_
          refine RW.off_guard rfl rfl rfl rfl hb34 ?_
          refine RW.off_guard rfl rfl rfl rfl hb34 ?_
          refine RW.op1 rfl (runs_pick_false rfl hb34 rfl) ?_
          refine RW.op1 rfl (runs_assign rfl) ?_
          refine RW.done ?_
          exact AQ.meet () hst ⟨rfl, rfl, congrArg (fun z => some (Value.bool z)) (by rw [namTo_next hk1, hb34]; rfl), rfl, rfl, trivial⟩
      · rintro _ w hstn
        clear hst
        have hst := hstn
        clear hstn
        refine AQ.next ?_
        refine CW.seq ?_
        -- region 7
        refine CW.region ?_
        refine RW.op1 rfl (runs_move rfl) ?_
        refine RW.op1 rfl (runs_move rfl) ?_
        refine RW.op1 rfl (runs_indexL Tryd.underlying9 rfl rfl (by omega) (by omega)) ?_
        rw [Int.toNat_natCast]
        obtain ⟨c, hc⟩ : ∃ c, s.toList.getD k 0 = c := ⟨_, rfl⟩
        rw [hc]
        refine RW.op1 rfl (runs_assign rfl) ?_
        refine RW.done ?_
        refine AQ.next ?_
        -- region 8
        refine CW.cut Unit (fun _ w => St w0 w I1 L) (fun _ => [(1, .int .i64 n), (5, .string s), (6, .bool (namTo s.toList (k + 1))), (7, .bool (decide (valTo s.toList k = true ∧ okP (c.toNat : Int) (k : Int) (s.toList.length : Int)))), (8, .int .i64 (k : Nat))]) ?_ ?_
        · -- region 8
          refine CW.region ?_
          refine RW.op1 rfl (runs_move rfl) ?_
          refine RW.op1 rfl (runs_move rfl) ?_
          refine RW.split (t := 46) rfl (fun hb46 => ?_) (fun hb46 => ?_)
          · have hb46p := hb46
            try simp only [decide_eq_true_eq, decide_eq_false_iff_not] at hb46p
            refine RW.on_guard rfl rfl rfl rfl hb46 ?_
            refine RW.op1 rfl (runs_move rfl) ?_
            refine RW.on_guard rfl rfl rfl rfl hb46 ?_
            refine RW.op1 rfl (runs_geq rfl rfl) ?_
            refine RW.op1 rfl (runs_pick_true rfl hb46 rfl) ?_
            refine RW.op1 rfl (runs_move rfl) ?_
            refine RW.split (t := 50) rfl (fun hb50 => ?_) (fun hb50 => ?_)
            · have hb50p := hb50
              try simp only [decide_eq_true_eq, decide_eq_false_iff_not] at hb50p
              refine RW.on_guard rfl rfl rfl rfl hb50 ?_
              refine RW.op1 rfl (runs_move rfl) ?_
              refine RW.on_guard rfl rfl rfl rfl hb50 ?_
              refine RW.op1 rfl (runs_leq rfl rfl) ?_
              refine RW.op1 rfl (runs_pick_true rfl hb50 rfl) ?_
              refine RW.op1 rfl (runs_move rfl) ?_
              refine RW.split (t := 54) rfl (fun hb54 => ?_) (fun hb54 => ?_)
              · have hb54p := hb54
                try simp only [decide_eq_true_eq, decide_eq_false_iff_not] at hb54p
                refine RW.on_guard rfl rfl rfl rfl hb54 ?_
                refine RW.op1 rfl (runs_move rfl) ?_
                refine RW.on_guard rfl rfl rfl rfl hb54 ?_
                refine RW.op1 rfl (runs_eqI rfl rfl) ?_
                refine RW.on_guard rfl rfl rfl rfl hb54 ?_
                refine RW.op1 rfl (runs_move rfl) ?_
                refine RW.split (t := 57) rfl (fun hb57 => ?_) (fun hb57 => ?_)
                · have hb57p := hb57
                  try simp only [decide_eq_true_eq, decide_eq_false_iff_not] at hb57p
                  refine RW.on_guard rfl rfl rfl rfl hb57 ?_
                  refine RW.op1 rfl (runs_move rfl) ?_
                  refine RW.on_guard rfl rfl rfl rfl hb57 ?_
                  refine RW.op1 rfl (runs_eqI rfl rfl) ?_
                  refine RW.on_guard rfl rfl rfl rfl hb57 ?_
                  refine RW.op1 rfl (runs_move rfl) ?_
                  refine RW.split (t := 60) rfl (fun hb60 => ?_) (fun hb60 => ?_)
                  · have hb60p := hb60
                    try simp only [decide_eq_true_eq, decide_eq_false_iff_not] at hb60p
                    refine RW.off_guard rfl rfl rfl rfl hb60 ?_
                    refine RW.off_guard rfl rfl rfl rfl hb60 ?_
                    refine RW.off_guard rfl rfl rfl rfl hb60 ?_
                    refine RW.off_guard rfl rfl rfl rfl hb60 ?_
                    refine RW.off_guard rfl rfl rfl rfl hb60 ?_
                    refine RW.on_guard rfl rfl rfl rfl hb57 ?_
                    refine RW.op1 rfl (runs_pick_true rfl hb60 rfl) ?_
                    refine RW.on_guard rfl rfl rfl rfl hb54 ?_
                    refine RW.op1 rfl (runs_pick_true rfl hb57 rfl) ?_
                    refine RW.on_guard rfl rfl rfl rfl hb54 ?_
                    refine RW.op1 rfl (runs_not rfl) ?_
                    refine RW.op1 rfl (runs_pick_true rfl hb54 rfl) ?_
                    refine RW.op1 rfl (runs_assign rfl) ?_
                    refine RW.done ?_
                    exact AQ.meet () hst ⟨rfl, rfl, rfl, boolN (by unfold okP; simp only [hb46, Bool.not_eq_true', decide_eq_true_eq, decide_eq_false_iff_not, true_iff, true_and, false_and, Bool.not_true, Bool.not_false, Bool.false_eq_true, false_iff, not_false_eq_true] <;> omega), rfl, trivial⟩
                  · have hb60p := hb60
                    try simp only [decide_eq_true_eq, decide_eq_false_iff_not] at hb60p
                    refine RW.on_guard rfl rfl rfl rfl hb60 ?_
                    refine RW.op1 rfl (runs_move rfl) ?_
                    refine RW.on_guard rfl rfl rfl rfl hb60 ?_
                    refine RW.op1 rfl (runs_move rfl) ?_
                    refine RW.on_guard rfl rfl rfl rfl hb60 ?_
                    refine RW.op1 rfl (runs_lenS Tryd.underlying9 rfl) ?_
                    refine RW.on_guard rfl rfl rfl rfl hb60 ?_
                    refine RW.op1 rfl (runs_sub rfl rfl (by omega)) ?_
                    refine RW.on_guard rfl rfl rfl rfl hb60 ?_
                    refine RW.op1 rfl (runs_eqI rfl rfl) ?_
                    refine RW.on_guard rfl rfl rfl rfl hb57 ?_
                    refine RW.op1 rfl (runs_pick_false rfl hb60 rfl) ?_
                    refine RW.on_guard rfl rfl rfl rfl hb54 ?_
                    refine RW.op1 rfl (runs_pick_true rfl hb57 rfl) ?_
                    refine RW.on_guard rfl rfl rfl rfl hb54 ?_
                    refine RW.op1 rfl (runs_not rfl) ?_
                    refine RW.op1 rfl (runs_pick_true rfl hb54 rfl) ?_
                    refine RW.op1 rfl (runs_assign rfl) ?_
                    refine RW.done ?_
                    exact AQ.meet () hst ⟨rfl, rfl, rfl, boolN (by unfold okP; simp only [hb46, Bool.not_eq_true', decide_eq_true_eq, decide_eq_false_iff_not, true_iff, true_and, false_and, Bool.not_true, Bool.not_false, Bool.false_eq_true, false_iff, not_false_eq_true] <;> omega), rfl, trivial⟩
                · have hb57p := hb57
                  try simp only [decide_eq_true_eq, decide_eq_false_iff_not] at hb57p
                  refine RW.off_guard rfl rfl rfl rfl hb57 ?_
                  refine RW.off_guard rfl rfl rfl rfl hb57 ?_
                  refine RW.off_guard rfl rfl rfl rfl hb57 ?_
                  refine RW.off_undef rfl rfl rfl rfl ?_
                  refine RW.off_undef rfl rfl rfl rfl ?_
                  refine RW.off_undef rfl rfl rfl rfl ?_
                  refine RW.off_undef rfl rfl rfl rfl ?_
                  refine RW.off_undef rfl rfl rfl rfl ?_
                  refine RW.off_guard rfl rfl rfl rfl hb57 ?_
                  refine RW.on_guard rfl rfl rfl rfl hb54 ?_
                  refine RW.op1 rfl (runs_pick_false rfl hb57 rfl) ?_
                  refine RW.on_guard rfl rfl rfl rfl hb54 ?_
                  refine RW.op1 rfl (runs_not rfl) ?_
                  refine RW.op1 rfl (runs_pick_true rfl hb54 rfl) ?_
                  refine RW.op1 rfl (runs_assign rfl) ?_
                  refine RW.done ?_
                  exact AQ.meet () hst ⟨rfl, rfl, rfl, boolN (by unfold okP; simp only [hb46, Bool.not_eq_true', decide_eq_true_eq, decide_eq_false_iff_not, true_iff, true_and, false_and, Bool.not_true, Bool.not_false, Bool.false_eq_true, false_iff, not_false_eq_true] <;> omega), rfl, trivial⟩
              · have hb54p := hb54
                try simp only [decide_eq_true_eq, decide_eq_false_iff_not] at hb54p
                refine RW.off_guard rfl rfl rfl rfl hb54 ?_
                refine RW.off_guard rfl rfl rfl rfl hb54 ?_
                refine RW.off_guard rfl rfl rfl rfl hb54 ?_
                refine RW.off_undef rfl rfl rfl rfl ?_
                refine RW.off_undef rfl rfl rfl rfl ?_
                refine RW.off_undef rfl rfl rfl rfl ?_
                refine RW.off_undef rfl rfl rfl rfl ?_
                refine RW.off_undef rfl rfl rfl rfl ?_
                refine RW.off_undef rfl rfl rfl rfl ?_
                refine RW.off_undef rfl rfl rfl rfl ?_
                refine RW.off_undef rfl rfl rfl rfl ?_
                refine RW.off_undef rfl rfl rfl rfl ?_
                refine RW.off_guard rfl rfl rfl rfl hb54 ?_
                refine RW.off_guard rfl rfl rfl rfl hb54 ?_
                refine RW.op1 rfl (runs_pick_false rfl hb54 rfl) ?_
                refine RW.op1 rfl (runs_assign rfl) ?_
                refine RW.done ?_
                exact AQ.meet () hst ⟨rfl, rfl, rfl, boolN (by unfold okP; simp only [hb46, Bool.not_eq_true', decide_eq_true_eq, decide_eq_false_iff_not, true_iff, true_and, false_and, Bool.not_true, Bool.not_false, Bool.false_eq_true, false_iff, not_false_eq_true] <;> omega), rfl, trivial⟩
            · have hb50p := hb50
              try simp only [decide_eq_true_eq, decide_eq_false_iff_not] at hb50p
              refine RW.off_guard rfl rfl rfl rfl hb50 ?_
              refine RW.off_guard rfl rfl rfl rfl hb50 ?_
              refine RW.op1 rfl (runs_pick_false rfl hb50 rfl) ?_
              refine RW.op1 rfl (runs_move rfl) ?_
              refine RW.off_guard rfl rfl rfl rfl rfl ?_
              refine RW.off_guard rfl rfl rfl rfl rfl ?_
              refine RW.off_guard rfl rfl rfl rfl rfl ?_
              refine RW.off_undef rfl rfl rfl rfl ?_
              refine RW.off_undef rfl rfl rfl rfl ?_
              refine RW.off_undef rfl rfl rfl rfl ?_
              refine RW.off_undef rfl rfl rfl rfl ?_
              refine RW.off_undef rfl rfl rfl rfl ?_
              refine RW.off_undef rfl rfl rfl rfl ?_
              refine RW.off_undef rfl rfl rfl rfl ?_
              refine RW.off_undef rfl rfl rfl rfl ?_
              refine RW.off_undef rfl rfl rfl rfl ?_
              refine RW.off_guard rfl rfl rfl rfl rfl ?_
              refine RW.off_guard rfl rfl rfl rfl rfl ?_
              refine RW.op1 rfl (runs_pick_false rfl rfl rfl) ?_
              refine RW.op1 rfl (runs_assign rfl) ?_
              refine RW.done ?_
              exact AQ.meet () hst ⟨rfl, rfl, rfl, boolN (by unfold okP; simp only [hb46, Bool.not_eq_true', decide_eq_true_eq, decide_eq_false_iff_not, true_iff, true_and, false_and, Bool.not_true, Bool.not_false, Bool.false_eq_true, false_iff, not_false_eq_true] <;> omega), rfl, trivial⟩
          · have hb46p := hb46
            try simp only [decide_eq_true_eq, decide_eq_false_iff_not] at hb46p
            refine RW.off_guard rfl rfl rfl rfl hb46 ?_
            refine RW.off_guard rfl rfl rfl rfl hb46 ?_
            refine RW.op1 rfl (runs_pick_false rfl hb46 rfl) ?_
            refine RW.op1 rfl (runs_move rfl) ?_
            refine RW.off_guard rfl rfl rfl rfl rfl ?_
            refine RW.off_guard rfl rfl rfl rfl rfl ?_
            refine RW.op1 rfl (runs_pick_false rfl rfl rfl) ?_
            refine RW.op1 rfl (runs_move rfl) ?_
            refine RW.off_guard rfl rfl rfl rfl rfl ?_
            refine RW.off_guard rfl rfl rfl rfl rfl ?_
            refine RW.off_guard rfl rfl rfl rfl rfl ?_
            refine RW.off_undef rfl rfl rfl rfl ?_
            refine RW.off_undef rfl rfl rfl rfl ?_
            refine RW.off_undef rfl rfl rfl rfl ?_
            refine RW.off_undef rfl rfl rfl rfl ?_
            refine RW.off_undef rfl rfl rfl rfl ?_
            refine RW.off_undef rfl rfl rfl rfl ?_
            refine RW.off_undef rfl rfl rfl rfl ?_
            refine RW.off_undef rfl rfl rfl rfl ?_
            refine RW.off_undef rfl rfl rfl rfl ?_
            refine RW.off_guard rfl rfl rfl rfl rfl ?_
            refine RW.off_guard rfl rfl rfl rfl rfl ?_
            refine RW.op1 rfl (runs_pick_false rfl rfl rfl) ?_
            refine RW.op1 rfl (runs_assign rfl) ?_
            refine RW.done ?_
            exact AQ.meet () hst ⟨rfl, rfl, rfl, boolN (by unfold okP; simp only [hb46, Bool.not_eq_true', decide_eq_true_eq, decide_eq_false_iff_not, true_iff, true_and, false_and, Bool.not_true, Bool.not_false, Bool.false_eq_true, false_iff, not_false_eq_true] <;> omega), rfl, trivial⟩
        · rintro _ w hstn
          clear hst
          have hst := hstn
          clear hstn
          rw [← hc, valTo_P hk1]
          refine AQ.block_normal ?_
          refine AQ.next ?_
          -- region 5
          refine CW.region ?_
          refine RW.op1 rfl (runs_move rfl) ?_
          refine RW.op1 rfl (runs_add rfl rfl (by omega)) ?_
          refine RW.op1 rfl (runs_assign rfl) ?_
          refine RW.done ?_
          exact AQ.again (x := k) (k + 1) ⟨hst, by omega⟩ ⟨rfl, rfl, rfl, rfl, rfl, trivial⟩ (by omega)
    · have hcb30 := hc30
      try simp only [decide_eq_true_eq, decide_eq_false_iff_not] at hc30
      obtain rfl : k = s.toList.length := by omega
      refine CW.exit ?_
      refine AQ.past_exit ?_
      refine AQ.past_exit ?_
      refine AQ.block_hit ?_
      refine AQ.next ?_
      refine CW.seq ?_
      -- region 9
      refine CW.region ?_
      rw [namTo_end (Nat.le_refl _), valTo_end]
      refine RW.op1 rfl (runs_move rfl) ?_
      refine RW.op1 rfl (runs_convB (by rw [Tryd.underlying3]; rfl) Tryd.underlying5 rfl) ?_
      refine RW.opE rfl (runs_litB (bs := [_]) rfl Tryd.underlying22 ti5 (by decide) rfl rfl rfl hst) ?_
      rintro u3 w ⟨I3, hI3, hstn, h3⟩
      clear hst
      have hst := hstn
      clear hstn
      replace hle := hle.trans hI3
      refine RW.op1 rfl (RdB.string Tryd.underlying22 Tryd.underlying5 Tryd.underlying9 rfl (by assumption) hst) ?_
      refine RW.op1 rfl (runs_assign rfl) ?_
      refine RW.done ?_
      refine AQ.next ?_
      refine CW.seq ?_
      -- region 10
      refine CW.region ?_
      refine RW.op1 rfl (runs_move rfl) ?_
      refine RW.op1 rfl (runs_indexL Tryd.underlying9 rfl rfl (by decide) (by show (0 : Int) < ((1 : Nat) : Int); decide)) ?_
      rw [strOf_toList, show ([u8 n] : List UInt8).getD ((0 : Int)).toNat 0 = u8 n from rfl]
      refine RW.op1 rfl (runs_assign rfl) ?_
      refine RW.done ?_
      refine AQ.next ?_
      refine CW.seq ?_
      -- region 11
      obtain ⟨c, hc⟩ : ∃ c, u8 n = c := ⟨_, rfl⟩
      rw [hc]
      refine CW.cut Unit (fun _ w => St w0 w I3 L) (fun _ => [(5, .string s), (6, .bool (nameB s.toList)), (7, .bool (valueB s.toList)), (10, .string (strOf [c])), (12, .bool (letB c))]) ?_ ?_
      · -- region 11
        refine CW.region ?_
        refine RW.op1 rfl (runs_move rfl) ?_
        refine RW.op1 rfl (runs_geq rfl rfl) ?_
        refine RW.op1 rfl (runs_move rfl) ?_
        refine RW.split (t := 78) rfl (fun hb78 => ?_) (fun hb78 => ?_)
        · have hb78p := hb78
          try simp only [decide_eq_true_eq, decide_eq_false_iff_not] at hb78p
          refine RW.on_guard rfl rfl rfl rfl hb78 ?_
          refine RW.op1 rfl (runs_move rfl) ?_
          refine RW.on_guard rfl rfl rfl rfl hb78 ?_
          refine RW.op1 rfl (runs_leq rfl rfl) ?_
          refine RW.op1 rfl (runs_pick_true rfl hb78 rfl) ?_
          refine RW.op1 rfl (runs_move rfl) ?_
          refine RW.split (t := 82) rfl (fun hb82 => ?_) (fun hb82 => ?_)
          · have hb82p := hb82
            try simp only [decide_eq_true_eq, decide_eq_false_iff_not] at hb82p
            refine RW.off_guard rfl rfl rfl rfl hb82 ?_
            refine RW.off_guard rfl rfl rfl rfl hb82 ?_
            refine RW.off_guard rfl rfl rfl rfl hb82 ?_
            refine RW.off_undef rfl rfl rfl rfl ?_
            refine RW.off_undef rfl rfl rfl rfl ?_
            refine RW.off_guard rfl rfl rfl rfl hb82 ?_
            refine RW.op1 rfl (runs_pick_true rfl hb82 rfl) ?_
            refine RW.op1 rfl (runs_move rfl) ?_
            refine RW.off_guard rfl rfl rfl rfl rfl ?_
            refine RW.off_guard rfl rfl rfl rfl rfl ?_
            refine RW.off_guard rfl rfl rfl rfl rfl ?_
            refine RW.off_undef rfl rfl rfl rfl ?_
            refine RW.off_undef rfl rfl rfl rfl ?_
            refine RW.off_guard rfl rfl rfl rfl rfl ?_
            refine RW.op1 rfl (runs_pick_true rfl rfl rfl) ?_
            refine RW.op1 rfl (runs_move rfl) ?_
            refine RW.off_guard rfl rfl rfl rfl rfl ?_
            refine RW.off_guard rfl rfl rfl rfl rfl ?_
            refine RW.op1 rfl (runs_pick_true rfl rfl rfl) ?_
            refine RW.op1 rfl (runs_assign rfl) ?_
            refine RW.done ?_
            exact AQ.meet () hst ⟨rfl, rfl, rfl, rfl, boolN (by unfold letterP; simp only [decide_eq_true_eq, true_iff, Bool.false_eq_true, false_iff]; omega), trivial⟩
          · have hb82p := hb82
            try simp only [decide_eq_true_eq, decide_eq_false_iff_not] at hb82p
            refine RW.on_guard rfl rfl rfl rfl hb82 ?_
            refine RW.op1 rfl (runs_move rfl) ?_
            refine RW.on_guard rfl rfl rfl rfl hb82 ?_
            refine RW.op1 rfl (runs_geq rfl rfl) ?_
            refine RW.on_guard rfl rfl rfl rfl hb82 ?_
            refine RW.op1 rfl (runs_move rfl) ?_
            refine RW.split (t := 85) rfl (fun hb85 => ?_) (fun hb85 => ?_)
            · have hb85p := hb85
              try simp only [decide_eq_true_eq, decide_eq_false_iff_not] at hb85p
              refine RW.on_guard rfl rfl rfl rfl hb85 ?_
              refine RW.op1 rfl (runs_move rfl) ?_
              refine RW.on_guard rfl rfl rfl rfl hb85 ?_
              refine RW.op1 rfl (runs_leq rfl rfl) ?_
              refine RW.on_guard rfl rfl rfl rfl hb82 ?_
              refine RW.op1 rfl (runs_pick_true rfl hb85 rfl) ?_
              refine RW.op1 rfl (runs_pick_false rfl hb82 rfl) ?_
              refine RW.op1 rfl (runs_move rfl) ?_
              refine RW.split (t := 90) rfl (fun hb90 => ?_) (fun hb90 => ?_)
              · have hb90p := hb90
                try simp only [decide_eq_true_eq, decide_eq_false_iff_not] at hb90p
                refine RW.off_guard rfl rfl rfl rfl hb90 ?_
                refine RW.off_guard rfl rfl rfl rfl hb90 ?_
                refine RW.off_guard rfl rfl rfl rfl hb90 ?_
                refine RW.off_undef rfl rfl rfl rfl ?_
                refine RW.off_undef rfl rfl rfl rfl ?_
                refine RW.off_guard rfl rfl rfl rfl hb90 ?_
                refine RW.op1 rfl (runs_pick_true rfl hb90 rfl) ?_
                refine RW.op1 rfl (runs_move rfl) ?_
                refine RW.off_guard rfl rfl rfl rfl rfl ?_
                refine RW.off_guard rfl rfl rfl rfl rfl ?_
                refine RW.op1 rfl (runs_pick_true rfl rfl rfl) ?_
                refine RW.op1 rfl (runs_assign rfl) ?_
                refine RW.done ?_
                exact AQ.meet () hst ⟨rfl, rfl, rfl, rfl, boolN (by unfold letterP; simp only [decide_eq_true_eq, true_iff, Bool.false_eq_true, false_iff]; omega), trivial⟩
              · have hb90p := hb90
                try simp only [decide_eq_true_eq, decide_eq_false_iff_not] at hb90p
                refine RW.on_guard rfl rfl rfl rfl hb90 ?_
                refine RW.op1 rfl (runs_move rfl) ?_
                refine RW.on_guard rfl rfl rfl rfl hb90 ?_
                refine RW.op1 rfl (runs_geq rfl rfl) ?_
                refine RW.on_guard rfl rfl rfl rfl hb90 ?_
                refine RW.op1 rfl (runs_move rfl) ?_
                refine RW.split (t := 93) rfl (fun hb93 => ?_) (fun hb93 => ?_)
                · have hb93p := hb93
                  try simp only [decide_eq_true_eq, decide_eq_false_iff_not] at hb93p
                  refine RW.on_guard rfl rfl rfl rfl hb93 ?_
                  refine RW.op1 rfl (runs_move rfl) ?_
                  refine RW.on_guard rfl rfl rfl rfl hb93 ?_
                  refine RW.op1 rfl (runs_leq rfl rfl) ?_
                  refine RW.on_guard rfl rfl rfl rfl hb90 ?_
                  refine RW.op1 rfl (runs_pick_true rfl hb93 rfl) ?_
                  refine RW.op1 rfl (runs_pick_false rfl hb90 rfl) ?_
                  refine RW.op1 rfl (runs_move rfl) ?_
                  refine RW.split (t := 98) rfl (fun hb98 => ?_) (fun hb98 => ?_)
                  · have hb98p := hb98
                    try simp only [decide_eq_true_eq, decide_eq_false_iff_not] at hb98p
                    refine RW.off_guard rfl rfl rfl rfl hb98 ?_
                    refine RW.off_guard rfl rfl rfl rfl hb98 ?_
                    refine RW.op1 rfl (runs_pick_true rfl hb98 rfl) ?_
                    refine RW.op1 rfl (runs_assign rfl) ?_
                    refine RW.done ?_
                    exact AQ.meet () hst ⟨rfl, rfl, rfl, rfl, boolN (by unfold letterP; simp only [decide_eq_true_eq, true_iff, Bool.false_eq_true, false_iff]; omega), trivial⟩
                  · have hb98p := hb98
                    try simp only [decide_eq_true_eq, decide_eq_false_iff_not] at hb98p
                    refine RW.on_guard rfl rfl rfl rfl hb98 ?_
                    refine RW.op1 rfl (runs_move rfl) ?_
                    refine RW.on_guard rfl rfl rfl rfl hb98 ?_
                    refine RW.op1 rfl (runs_eqI rfl rfl) ?_
                    refine RW.op1 rfl (runs_pick_false rfl hb98 rfl) ?_
                    refine RW.op1 rfl (runs_assign rfl) ?_
                    refine RW.done ?_
                    exact AQ.meet () hst ⟨rfl, rfl, rfl, rfl, boolN (by unfold letterP; simp only [decide_eq_true_eq, true_iff, Bool.false_eq_true, false_iff]; omega), trivial⟩
                · have hb93p := hb93
                  try simp only [decide_eq_true_eq, decide_eq_false_iff_not] at hb93p
                  refine RW.off_guard rfl rfl rfl rfl hb93 ?_
                  refine RW.off_guard rfl rfl rfl rfl hb93 ?_
                  refine RW.on_guard rfl rfl rfl rfl hb90 ?_
                  refine RW.op1 rfl (runs_pick_false rfl hb93 rfl) ?_
                  refine RW.op1 rfl (runs_pick_false rfl hb90 rfl) ?_
                  refine RW.op1 rfl (runs_move rfl) ?_
                  refine RW.on_guard rfl rfl rfl rfl rfl ?_
                  refine RW.op1 rfl (runs_move rfl) ?_
                  refine RW.on_guard rfl rfl rfl rfl rfl ?_
                  refine RW.op1 rfl (runs_eqI rfl rfl) ?_
                  refine RW.op1 rfl (runs_pick_false rfl rfl rfl) ?_
                  refine RW.op1 rfl (runs_assign rfl) ?_
                  refine RW.done ?_
                  exact AQ.meet () hst ⟨rfl, rfl, rfl, rfl, boolN (by unfold letterP; simp only [decide_eq_true_eq, true_iff, Bool.false_eq_true, false_iff]; omega), trivial⟩
            · have hb85p := hb85
              try simp only [decide_eq_true_eq, decide_eq_false_iff_not] at hb85p
              refine RW.off_guard rfl rfl rfl rfl hb85 ?_
              refine RW.off_guard rfl rfl rfl rfl hb85 ?_
              refine RW.on_guard rfl rfl rfl rfl hb82 ?_
              refine RW.op1 rfl (runs_pick_false rfl hb85 rfl) ?_
              refine RW.op1 rfl (runs_pick_false rfl hb82 rfl) ?_
              refine RW.op1 rfl (runs_move rfl) ?_
              refine RW.on_guard rfl rfl rfl rfl rfl ?_
              refine RW.op1 rfl (runs_move rfl) ?_
              refine RW.on_guard rfl rfl rfl rfl rfl ?_
              refine RW.op1 rfl (runs_geq rfl rfl) ?_
              refine RW.on_guard rfl rfl rfl rfl rfl ?_
              refine RW.op1 rfl (runs_move rfl) ?_
              refine RW.split (t := 93) rfl (fun hb93 => ?_) (fun hb93 => ?_)
              · have hb93p := hb93
                try simp only [decide_eq_true_eq, decide_eq_false_iff_not] at hb93p
                refine RW.on_guard rfl rfl rfl rfl hb93 ?_
                refine RW.op1 rfl (runs_move rfl) ?_
                refine RW.on_guard rfl rfl rfl rfl hb93 ?_
                refine RW.op1 rfl (runs_leq rfl rfl) ?_
                refine RW.on_guard rfl rfl rfl rfl rfl ?_
                refine RW.op1 rfl (runs_pick_true rfl hb93 rfl) ?_
                refine RW.op1 rfl (runs_pick_false rfl rfl rfl) ?_
                refine RW.op1 rfl (runs_move rfl) ?_
                refine RW.split (t := 98) rfl (fun hb98 => ?_) (fun hb98 => ?_)
                · have hb98p := hb98
                  try simp only [decide_eq_true_eq, decide_eq_false_iff_not] at hb98p
                  refine RW.off_guard rfl rfl rfl rfl hb98 ?_
                  refine RW.off_guard rfl rfl rfl rfl hb98 ?_
                  refine RW.op1 rfl (runs_pick_true rfl hb98 rfl) ?_
                  refine RW.op1 rfl (runs_assign rfl) ?_
                  refine RW.done ?_
                  exact AQ.meet () hst ⟨rfl, rfl, rfl, rfl, boolN (by unfold letterP; simp only [decide_eq_true_eq, true_iff, Bool.false_eq_true, false_iff]; omega), trivial⟩
                · have hb98p := hb98
                  try simp only [decide_eq_true_eq, decide_eq_false_iff_not] at hb98p
                  refine RW.on_guard rfl rfl rfl rfl hb98 ?_
                  refine RW.op1 rfl (runs_move rfl) ?_
                  refine RW.on_guard rfl rfl rfl rfl hb98 ?_
                  refine RW.op1 rfl (runs_eqI rfl rfl) ?_
                  refine RW.op1 rfl (runs_pick_false rfl hb98 rfl) ?_
                  refine RW.op1 rfl (runs_assign rfl) ?_
                  refine RW.done ?_
                  exact AQ.meet () hst ⟨rfl, rfl, rfl, rfl, boolN (by unfold letterP; simp only [decide_eq_true_eq, true_iff, Bool.false_eq_true, false_iff]; omega), trivial⟩
              · have hb93p := hb93
                try simp only [decide_eq_true_eq, decide_eq_false_iff_not] at hb93p
                refine RW.off_guard rfl rfl rfl rfl hb93 ?_
                refine RW.off_guard rfl rfl rfl rfl hb93 ?_
                refine RW.on_guard rfl rfl rfl rfl rfl ?_
                refine RW.op1 rfl (runs_pick_false rfl hb93 rfl) ?_
                refine RW.op1 rfl (runs_pick_false rfl rfl rfl) ?_
                refine RW.op1 rfl (runs_move rfl) ?_
                refine RW.on_guard rfl rfl rfl rfl rfl ?_
                refine RW.op1 rfl (runs_move rfl) ?_
                refine RW.on_guard rfl rfl rfl rfl rfl ?_
                refine RW.op1 rfl (runs_eqI rfl rfl) ?_
                refine RW.op1 rfl (runs_pick_false rfl rfl rfl) ?_
                refine RW.op1 rfl (runs_assign rfl) ?_
                refine RW.done ?_
                exact AQ.meet () hst ⟨rfl, rfl, rfl, rfl, boolN (by unfold letterP; simp only [decide_eq_true_eq, true_iff, Bool.false_eq_true, false_iff]; omega), trivial⟩
        · have hb78p := hb78
          try simp only [decide_eq_true_eq, decide_eq_false_iff_not] at hb78p
          refine RW.off_guard rfl rfl rfl rfl hb78 ?_
          refine RW.off_guard rfl rfl rfl rfl hb78 ?_
          refine RW.op1 rfl (runs_pick_false rfl hb78 rfl) ?_
          refine RW.op1 rfl (runs_move rfl) ?_
          refine RW.on_guard rfl rfl rfl rfl rfl ?_
          refine RW.op1 rfl (runs_move rfl) ?_
          refine RW.on_guard rfl rfl rfl rfl rfl ?_
          refine RW.op1 rfl (runs_geq rfl rfl) ?_
          refine RW.on_guard rfl rfl rfl rfl rfl ?_
          refine RW.op1 rfl (runs_move rfl) ?_
          refine RW.split (t := 85) rfl (fun hb85 => ?_) (fun hb85 => ?_)
          · have hb85p := hb85
            try simp only [decide_eq_true_eq, decide_eq_false_iff_not] at hb85p
            refine RW.on_guard rfl rfl rfl rfl hb85 ?_
            refine RW.op1 rfl (runs_move rfl) ?_
            refine RW.on_guard rfl rfl rfl rfl hb85 ?_
            refine RW.op1 rfl (runs_leq rfl rfl) ?_
            refine RW.on_guard rfl rfl rfl rfl rfl ?_
            refine RW.op1 rfl (runs_pick_true rfl hb85 rfl) ?_
            refine RW.op1 rfl (runs_pick_false rfl rfl rfl) ?_
            refine RW.op1 rfl (runs_move rfl) ?_
            refine RW.split (t := 90) rfl (fun hb90 => ?_) (fun hb90 => ?_)
            · have hb90p := hb90
              try simp only [decide_eq_true_eq, decide_eq_false_iff_not] at hb90p
              refine RW.off_guard rfl rfl rfl rfl hb90 ?_
              refine RW.off_guard rfl rfl rfl rfl hb90 ?_
              refine RW.off_guard rfl rfl rfl rfl hb90 ?_
              refine RW.off_undef rfl rfl rfl rfl ?_
              refine RW.off_undef rfl rfl rfl rfl ?_
              refine RW.off_guard rfl rfl rfl rfl hb90 ?_
              refine RW.op1 rfl (runs_pick_true rfl hb90 rfl) ?_
              refine RW.op1 rfl (runs_move rfl) ?_
              refine RW.off_guard rfl rfl rfl rfl rfl ?_
              refine RW.off_guard rfl rfl rfl rfl rfl ?_
              refine RW.op1 rfl (runs_pick_true rfl rfl rfl) ?_
              refine RW.op1 rfl (runs_assign rfl) ?_
              refine RW.done ?_
              exact AQ.meet () hst ⟨rfl, rfl, rfl, rfl, boolN (by unfold letterP; simp only [decide_eq_true_eq, true_iff, Bool.false_eq_true, false_iff]; omega), trivial⟩
            · have hb90p := hb90
              try simp only [decide_eq_true_eq, decide_eq_false_iff_not] at hb90p
              refine RW.on_guard rfl rfl rfl rfl hb90 ?_
              refine RW.op1 rfl (runs_move rfl) ?_
              refine RW.on_guard rfl rfl rfl rfl hb90 ?_
              refine RW.op1 rfl (runs_geq rfl rfl) ?_
              refine RW.on_guard rfl rfl rfl rfl hb90 ?_
              refine RW.op1 rfl (runs_move rfl) ?_
              refine RW.split (t := 93) rfl (fun hb93 => ?_) (fun hb93 => ?_)
              · have hb93p := hb93
                try simp only [decide_eq_true_eq, decide_eq_false_iff_not] at hb93p
                refine RW.on_guard rfl rfl rfl rfl hb93 ?_
                refine RW.op1 rfl (runs_move rfl) ?_
                refine RW.on_guard rfl rfl rfl rfl hb93 ?_
                refine RW.op1 rfl (runs_leq rfl rfl) ?_
                refine RW.on_guard rfl rfl rfl rfl hb90 ?_
                refine RW.op1 rfl (runs_pick_true rfl hb93 rfl) ?_
                refine RW.op1 rfl (runs_pick_false rfl hb90 rfl) ?_
                refine RW.op1 rfl (runs_move rfl) ?_
                refine RW.split (t := 98) rfl (fun hb98 => ?_) (fun hb98 => ?_)
                · have hb98p := hb98
                  try simp only [decide_eq_true_eq, decide_eq_false_iff_not] at hb98p
                  refine RW.off_guard rfl rfl rfl rfl hb98 ?_
                  refine RW.off_guard rfl rfl rfl rfl hb98 ?_
                  refine RW.op1 rfl (runs_pick_true rfl hb98 rfl) ?_
                  refine RW.op1 rfl (runs_assign rfl) ?_
                  refine RW.done ?_
                  exact AQ.meet () hst ⟨rfl, rfl, rfl, rfl, boolN (by unfold letterP; simp only [decide_eq_true_eq, true_iff, Bool.false_eq_true, false_iff]; omega), trivial⟩
                · have hb98p := hb98
                  try simp only [decide_eq_true_eq, decide_eq_false_iff_not] at hb98p
                  refine RW.on_guard rfl rfl rfl rfl hb98 ?_
                  refine RW.op1 rfl (runs_move rfl) ?_
                  refine RW.on_guard rfl rfl rfl rfl hb98 ?_
                  refine RW.op1 rfl (runs_eqI rfl rfl) ?_
                  refine RW.op1 rfl (runs_pick_false rfl hb98 rfl) ?_
                  refine RW.op1 rfl (runs_assign rfl) ?_
                  refine RW.done ?_
                  exact AQ.meet () hst ⟨rfl, rfl, rfl, rfl, boolN (by unfold letterP; simp only [decide_eq_true_eq, true_iff, Bool.false_eq_true, false_iff]; omega), trivial⟩
              · have hb93p := hb93
                try simp only [decide_eq_true_eq, decide_eq_false_iff_not] at hb93p
                refine RW.off_guard rfl rfl rfl rfl hb93 ?_
                refine RW.off_guard rfl rfl rfl rfl hb93 ?_
                refine RW.on_guard rfl rfl rfl rfl hb90 ?_
                refine RW.op1 rfl (runs_pick_false rfl hb93 rfl) ?_
                refine RW.op1 rfl (runs_pick_false rfl hb90 rfl) ?_
                refine RW.op1 rfl (runs_move rfl) ?_
                refine RW.on_guard rfl rfl rfl rfl rfl ?_
                refine RW.op1 rfl (runs_move rfl) ?_
                refine RW.on_guard rfl rfl rfl rfl rfl ?_
                refine RW.op1 rfl (runs_eqI rfl rfl) ?_
                refine RW.op1 rfl (runs_pick_false rfl rfl rfl) ?_
                refine RW.op1 rfl (runs_assign rfl) ?_
                refine RW.done ?_
                exact AQ.meet () hst ⟨rfl, rfl, rfl, rfl, boolN (by unfold letterP; simp only [decide_eq_true_eq, true_iff, Bool.false_eq_true, false_iff]; omega), trivial⟩
          · have hb85p := hb85
            try simp only [decide_eq_true_eq, decide_eq_false_iff_not] at hb85p
            refine RW.off_guard rfl rfl rfl rfl hb85 ?_
            refine RW.off_guard rfl rfl rfl rfl hb85 ?_
            refine RW.on_guard rfl rfl rfl rfl rfl ?_
            refine RW.op1 rfl (runs_pick_false rfl hb85 rfl) ?_
            refine RW.op1 rfl (runs_pick_false rfl rfl rfl) ?_
            refine RW.op1 rfl (runs_move rfl) ?_
            refine RW.on_guard rfl rfl rfl rfl rfl ?_
            refine RW.op1 rfl (runs_move rfl) ?_
            refine RW.on_guard rfl rfl rfl rfl rfl ?_
            refine RW.op1 rfl (runs_geq rfl rfl) ?_
            refine RW.on_guard rfl rfl rfl rfl rfl ?_
            refine RW.op1 rfl (runs_move rfl) ?_
            refine RW.split (t := 93) rfl (fun hb93 => ?_) (fun hb93 => ?_)
            · have hb93p := hb93
              try simp only [decide_eq_true_eq, decide_eq_false_iff_not] at hb93p
              refine RW.on_guard rfl rfl rfl rfl hb93 ?_
              refine RW.op1 rfl (runs_move rfl) ?_
              refine RW.on_guard rfl rfl rfl rfl hb93 ?_
              refine RW.op1 rfl (runs_leq rfl rfl) ?_
              refine RW.on_guard rfl rfl rfl rfl rfl ?_
              refine RW.op1 rfl (runs_pick_true rfl hb93 rfl) ?_
              refine RW.op1 rfl (runs_pick_false rfl rfl rfl) ?_
              refine RW.op1 rfl (runs_move rfl) ?_
              refine RW.split (t := 98) rfl (fun hb98 => ?_) (fun hb98 => ?_)
              · have hb98p := hb98
                try simp only [decide_eq_true_eq, decide_eq_false_iff_not] at hb98p
                refine RW.off_guard rfl rfl rfl rfl hb98 ?_
                refine RW.off_guard rfl rfl rfl rfl hb98 ?_
                refine RW.op1 rfl (runs_pick_true rfl hb98 rfl) ?_
                refine RW.op1 rfl (runs_assign rfl) ?_
                refine RW.done ?_
                exact AQ.meet () hst ⟨rfl, rfl, rfl, rfl, boolN (by unfold letterP; simp only [decide_eq_true_eq, true_iff, Bool.false_eq_true, false_iff]; omega), trivial⟩
              · have hb98p := hb98
                try simp only [decide_eq_true_eq, decide_eq_false_iff_not] at hb98p
                refine RW.on_guard rfl rfl rfl rfl hb98 ?_
                refine RW.op1 rfl (runs_move rfl) ?_
                refine RW.on_guard rfl rfl rfl rfl hb98 ?_
                refine RW.op1 rfl (runs_eqI rfl rfl) ?_
                refine RW.op1 rfl (runs_pick_false rfl hb98 rfl) ?_
                refine RW.op1 rfl (runs_assign rfl) ?_
                refine RW.done ?_
                exact AQ.meet () hst ⟨rfl, rfl, rfl, rfl, boolN (by unfold letterP; simp only [decide_eq_true_eq, true_iff, Bool.false_eq_true, false_iff]; omega), trivial⟩
            · have hb93p := hb93
              try simp only [decide_eq_true_eq, decide_eq_false_iff_not] at hb93p
              refine RW.off_guard rfl rfl rfl rfl hb93 ?_
              refine RW.off_guard rfl rfl rfl rfl hb93 ?_
              refine RW.on_guard rfl rfl rfl rfl rfl ?_
              refine RW.op1 rfl (runs_pick_false rfl hb93 rfl) ?_
              refine RW.op1 rfl (runs_pick_false rfl rfl rfl) ?_
              refine RW.op1 rfl (runs_move rfl) ?_
              refine RW.on_guard rfl rfl rfl rfl rfl ?_
              refine RW.op1 rfl (runs_move rfl) ?_
              refine RW.on_guard rfl rfl rfl rfl rfl ?_
              refine RW.op1 rfl (runs_eqI rfl rfl) ?_
              refine RW.op1 rfl (runs_pick_false rfl rfl rfl) ?_
              refine RW.op1 rfl (runs_assign rfl) ?_
              refine RW.done ?_
              exact AQ.meet () hst ⟨rfl, rfl, rfl, rfl, boolN (by unfold letterP; simp only [decide_eq_true_eq, true_iff, Bool.false_eq_true, false_iff]; omega), trivial⟩
      · rintro _ w hstn
        clear hst
        have hst := hstn
        clear hstn
        refine AQ.next ?_
        refine CW.seq ?_
        -- region 12
        refine CW.region ?_
        refine RW.op1 rfl (runs_move rfl) ?_
        refine RW.call rfl call5 rfl rfl (name_spec hst s (by omega)) ?_
        rintro e w ⟨rfl, hstn⟩
        clear hst
        have hst := hstn
        clear hstn
        refine ⟨_, rfl, ?_⟩
        refine RW.op1 rfl (runs_move rfl) ?_
        refine RW.op1 rfl (runs_eqB Tryd.underlying4 rfl rfl) ?_
        refine RW.op1 rfl (runs_move rfl) ?_
        have hk106 := (show (nameB s.toList == nameB s.toList) = true by simp)
        refine RW.on_guard rfl rfl rfl rfl hk106 ?_
        refine RW.op1 rfl (runs_move rfl) ?_
        refine RW.on_guard rfl rfl rfl rfl hk106 ?_
        refine RW.call rfl call6 rfl rfl (value_spec hst s (by omega)) ?_
        rintro e w ⟨rfl, hstn⟩
        clear hst
        have hst := hstn
        clear hstn
        refine ⟨_, rfl, ?_⟩
        refine RW.on_guard rfl rfl rfl rfl hk106 ?_
        refine RW.op1 rfl (runs_move rfl) ?_
        refine RW.on_guard rfl rfl rfl rfl hk106 ?_
        refine RW.op1 rfl (runs_eqB Tryd.underlying4 rfl rfl) ?_
        refine RW.op1 rfl (runs_pick_true rfl hk106 rfl) ?_
        refine RW.op1 rfl (runs_move rfl) ?_
        have hk112 := (show (valueB s.toList == valueB s.toList) = true by simp)
        refine RW.on_guard rfl rfl rfl rfl hk112 ?_
        refine RW.op1 rfl (runs_move rfl) ?_
        refine RW.on_guard rfl rfl rfl rfl hk112 ?_
        refine RW.call rfl call5 rfl rfl (name_spec hst (strOf [c]) (by show 1 ≤ 1000000; decide)) ?_
        rintro e w ⟨rfl, hstn⟩
        clear hst
        have hst := hstn
        clear hstn
        rw [strOf_toList, name_one]
        refine ⟨_, rfl, ?_⟩
        refine RW.on_guard rfl rfl rfl rfl hk112 ?_
        refine RW.op1 rfl (runs_move rfl) ?_
        refine RW.on_guard rfl rfl rfl rfl hk112 ?_
        refine RW.op1 rfl (runs_eqB Tryd.underlying4 rfl rfl) ?_
        refine RW.op1 rfl (runs_pick_true rfl hk112 rfl) ?_
        refine RW.op1 rfl (runs_move rfl) ?_
        have hk118 := (show (letB c == letB c) = true by simp)
        refine RW.on_guard rfl rfl rfl rfl hk118 ?_
        refine RW.call rfl call7 rfl rfl (wakes08_spec hst) ?_
        rintro e w ⟨I7, hI7, rfl, hstn⟩
        clear hst
        have hst := hstn
        clear hstn
        replace hle := hle.trans hI7
        refine ⟨_, rfl, ?_⟩
        refine RW.op1 rfl (runs_pick_true rfl hk118 rfl) ?_
        refine RW.op1 rfl (runs_assign rfl) ?_
        refine RW.done ?_
        refine AQ.next ?_
        refine CW.ret ?_
        refine AQ.ret1 rfl rfl ?_
        exact ⟨rfl, _, hle, hst⟩
end Go.Proofs.YtdelipmhginegaaDoorX
