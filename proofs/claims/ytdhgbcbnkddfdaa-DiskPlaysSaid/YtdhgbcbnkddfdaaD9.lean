/- As many writes are done as the limit says; kept by their numbers: the walk. -/
import Derived.Test.YtdhgbcbnkddfdaaT
import Derived.Test.YtdhgbcbnkddfdaaD8
namespace Go.Proofs.YtdhgbcbnkddfdaaX
set_option linter.unusedVariables false
set_option linter.unusedSimpArgs false
open Go Go.RowKit Go.Proofs

def pwB (k : Nat) : List UInt8 := bytesOf (9 * (k : Int) + 1) 32
def pwP (k : Nat) : List (Int × List UInt8) := (List.range k).map fun j => (((j % 4 : Nat) : Int), pwB j)
/-- The disk behind so many writes. -/
def pwS (lim i : Nat) : DS := ⟨[zs, zs, zs, zs], pwP (min i lim), (lim : Int) - (min i lim : Nat), decide (lim < i)⟩
theorem pwB_len (k : Nat) : (pwB k).length = 32 := bytesOf_length _ 32
theorem pwP_len (k : Nat) : (pwP k).length = k := by simp [pwP]
theorem pwP_succ (k : Nat) : pwP (k + 1) = pwP k ++ [(((k % 4 : Nat) : Int), pwB k)] := by simp [pwP, List.range_succ]
theorem newR4 (lim : Nat) : ({ newR 4 with left := if (lim : Int) > -1 then (lim : Int) else -1 } : DS) = pwS lim 0 := by
  rw [if_pos (by omega)]
  unfold pwS
  simp [newR, pwP, zs, List.replicate]
theorem pw_step (lim i : Nat) : writeR (pwS lim i) ((i % 4 : Nat) : Int) (pwB i) = (pwS lim (i + 1), if i < lim then 0 else 8) := by
  have hm : i % 4 < 4 := Nat.mod_lt _ (by decide)
  rcases Nat.lt_trichotomy i lim with h | h | h
  · have hd : (pwS lim i).down = false := decide_eq_false (by omega)
    rw [write_ok (may_in hd (by omega) (by show ((i % 4 : Nat) : Int) < 4; omega)) (pwB_len i) (by show (lim : Int) - (min i lim : Nat) ≠ 0; omega), if_pos h]
    unfold pwS
    rw [show min i lim = i by omega, show min (i + 1) lim = i + 1 by omega, pwP_succ]
    congr 2
    · show (if (lim : Int) - (i : Int) - 1 > -1 then (lim : Int) - (i : Int) - 1 else -1) = _
      rw [if_pos (by omega)]
      omega
    · simp only [decide_eq_decide]
      omega
  · subst h
    have hd : (pwS i i).down = false := decide_eq_false (by omega)
    rw [write_dry (may_in hd (by omega) (by show ((i % 4 : Nat) : Int) < 4; omega)) (pwB_len i) (by show (i : Int) - (min i i : Nat) = 0; omega), if_neg (by omega)]
    unfold pwS
    rw [show min i i = i by omega, show min (i + 1) i = i by omega]
    rw [decide_eq_true (show i < i + 1 by omega)]
  · have hd : (pwS lim i).down = true := decide_eq_true (by omega)
    rw [write_no (may_down hd) (by decide), if_neg (by omega)]
    unfold pwS
    rw [show min i lim = lim by omega, show min (i + 1) lim = lim by omega, decide_eq_true (show lim < i by omega), decide_eq_true (show lim < i + 1 by omega)]
/-- What is in a sector behind a crash, as far as k writes. -/
def secR (ks : List Int) (at_ : Nat) : Nat → List UInt8
  | 0 => zs
  | k + 1 => if k % 4 = at_ then (pwB k).take (keepN ks k) ++ (secR ks at_ k).drop (keepN ks k) else secR ks at_ k
theorem secR_len (ks : List Int) (at_ : Nat) : ∀ k, (secR ks at_ k).length = 32
  | 0 => rfl
  | k + 1 => by
    have h1 := secR_len ks at_ k
    have h2 := pwB_len k
    have h3 := keepN_le ks k
    unfold secR
    split
    · rw [List.length_append, List.length_take, List.length_drop, h1, h2]; omega
    · exact h1
theorem crash4 (lim n : Nat) (ks : List Int) : ∀ k, k ≤ min n lim → crashTo (pwS lim n) ks k = [secR ks 0 k, secR ks 1 k, secR ks 2 k, secR ks 3 k]
  | 0, _ => rfl
  | k + 1, h => by
    have ih := crash4 lim n ks k (by omega)
    have hp : (pwS lim n).pend[k]? = some (((k % 4 : Nat) : Int), pwB k) := by
      show (pwP (min n lim))[k]? = _
      unfold pwP
      rw [List.getElem?_map, List.getElem?_range (by omega)]
      rfl
    rw [crashTo_next hp, ih]
    unfold tornR
    dsimp only
    rw [Int.toNat_natCast]
    have hm : k % 4 < 4 := Nat.mod_lt _ (by decide)
    simp only [secR]
    rcases (by omega : k % 4 = 0 ∨ k % 4 = 1 ∨ k % 4 = 2 ∨ k % 4 = 3) with h | h | h | h <;> rw [h] <;> rfl
theorem secR_skip (ks : List Int) (at_ m : Nat) : ∀ i, m ≤ i → (∀ k, m ≤ k → k < i → k % 4 ≠ at_) → secR ks at_ i = secR ks at_ m
  | 0, h, _ => by rw [show m = 0 by omega]
  | i + 1, h, hk => by
    by_cases he : m = i + 1
    · rw [he]
    · rw [secR, if_neg (hk i (by omega) (by omega))]
      exact secR_skip ks at_ m i (by omega) (fun k h1 h2 => hk k h1 (by omega))
theorem secR_start (ks : List Int) {at_ : Nat} (h : at_ < 4) : secR ks at_ at_ = zs := by
  rw [secR_skip ks at_ 0 at_ (by omega) (fun k _ h2 => by rw [Nat.mod_eq_of_lt (by omega)]; omega)]
  rfl
theorem secR_four (ks : List Int) {at_ i : Nat} (hi : i % 4 = at_) : secR ks at_ (i + 4) = (pwB i).take (keepN ks i) ++ (secR ks at_ i).drop (keepN ks i) := by
  rw [secR_skip ks at_ (i + 1) (i + 4) (by omega) (fun k h1 h2 => by omega), secR, if_pos hi]
theorem pw_read (lim n : Nat) (ks : List Int) {at_ i : Nat} (ha : at_ < 4) (hi : i % 4 = at_) (h1 : min n lim ≤ i) (h2 : i < min n lim + 4 ∨ i = at_) : readR (crashR (pwS lim n) ks) (at_ : Int) = secR ks at_ i := by
  have hs : secR ks at_ i = secR ks at_ (min n lim) := secR_skip ks at_ _ i h1 (fun k h3 h4 => by omega)
  have hc := crash4 lim n ks (min n lim) (Nat.le_refl _)
  rw [crashTo_end (by show (pwP (min n lim)).length ≤ _; rw [pwP_len]; exact Nat.le_refl _)] at hc
  unfold readR
  rw [hc, hs, Int.toNat_natCast]
  show ([secR ks 0 _, secR ks 1 _, secR ks 2 _, secR ks 3 _] : List (List UInt8)).getD at_ [] = _
  rcases (by omega : at_ = 0 ∨ at_ = 1 ∨ at_ = 2 ∨ at_ = 3) with h | h | h | h <;> subst h <;> rfl
theorem pw_may (lim n : Nat) (ks : List Int) {at_ : Nat} (ha : at_ < 4) : mayR (crashR (pwS lim n) ks) (at_ : Int) = 0 := by
  have hc := crash4 lim n ks (min n lim) (Nat.le_refl _)
  rw [crashTo_end (by show (pwP (min n lim)).length ≤ _; rw [pwP_len]; exact Nat.le_refl _)] at hc
  refine may_in rfl (by omega) ?_
  rw [hc]
  show (at_ : Int) < 4
  omega
theorem keep_b {b : Bool} {P : Prop} [Decidable P] (h : b = true ↔ P) : some (Value.bool b) = some (Value.bool (decide P)) := by
  congr 2
  cases b
  · rw [decide_eq_false (fun hp => by cases h.2 hp)]
  · rw [decide_eq_true (h.1 rfl)]
theorem sliced0 (b h : Nat) : sliced (some ⟨b, 0, none⟩) 0 h 32 1 = .slice (some (slPtr (.slice (some ⟨b, 0, none⟩) 32 32) 0)) h 32 := rfl
theorem bytes_over {bs x : List UInt8} : (bs.map b8).take 0 ++ x.map b8 ++ (bs.map b8).drop (0 + (x.map b8).length) = (x ++ bs.drop x.length).map b8 := by
  simp
set_option maxRecDepth 100000 in
set_option maxHeartbeats 1000000 in
theorem power_spec {w0 w : World} {I : Imm} {L : Own} (hst : St w0 w I L) (n lim : Int) {vk : Value} {ks : List Int} (hn : i64ok n) (hl : i64ok lim) (hk0 : RdI I vk ks) :
    Calls Try.prog 6 #[.int .i64 n, .int .i64 lim, vk] w fun e w' => e = .returned (.bool true) ∧ ∃ I', I.le I' ∧ St w0 w' I' L := by
  refine enter Try.func6 rfl (N := 146) rfl rfl ?_
  simp only [List.zipIdx_cons, List.zipIdx_nil, List.map_cons, List.map_nil, Nat.zero_add, Nat.reduceAdd]
  have hle := Imm.le.refl I
  refine CW.seq ?_
  -- region 0
  refine CW.region ?_
  refine RW.op1 rfl (runs_assign rfl) ?_
  refine RW.done ?_
  refine AQ.next ?_
  refine CW.seq ?_
  -- region 1
  refine CW.region ?_
  refine RW.call rfl call9 rfl rfl (new_spec hst 4) ?_
  rintro e w ⟨_, Ld1, rfl, _, hstn, hd1, a1, rfl⟩
  clear hst
  have hst := hstn
  clear hstn
  refine ⟨_, rfl, ?_⟩
  refine RW.op1 rfl (runs_assign rfl) ?_
  refine RW.done ?_
  refine AQ.next ?_
  refine CW.seq ?_
  refine CW.seq ?_
  -- region 2
  refine CW.region ?_
  refine RW.op1 rfl (runs_move rfl) ?_
  refine RW.op1 rfl (runs_eq_nilptr Try.underlying23 rfl) ?_
  refine RW.done ?_
  refine AQ.next ?_
  refine CW.cond rfl (fun hc => absurd hc (by rw [(show (Option.isNone (some a1)) = false from rfl)]; decide)) (fun hc => ?_)
  refine CW.skip ?_
  refine AQ.next ?_
  refine CW.seq ?_
  -- region 4
  refine CW.region ?_
  refine RW.op1 rfl (runs_move rfl) ?_
  refine RW.call rfl call8 rfl rfl (within_spec hst (v := n) (n := 14) hn (by unfold i64ok; decide)) ?_
  rintro e w ⟨rfl, hstn⟩
  clear hst
  have hst := hstn
  clear hstn
  have hw1 := within_range n 14
  generalize hx1 : within n 14 = x1 at *
  obtain ⟨nn, rfl⟩ : ∃ m : Nat, x1 = m := ⟨x1.toNat, by omega⟩
  refine ⟨_, rfl, ?_⟩
  refine RW.op1 rfl (runs_move rfl) ?_
  refine RW.call rfl call8 rfl rfl (within_spec hst (v := lim) (n := 14) hl (by unfold i64ok; decide)) ?_
  rintro e w ⟨rfl, hstn⟩
  clear hst
  have hst := hstn
  clear hstn
  have hw2 := within_range lim 14
  generalize hx2 : within lim 14 = x2 at *
  obtain ⟨lm, rfl⟩ : ∃ m : Nat, x2 = m := ⟨x2.toNat, by omega⟩
  refine ⟨_, rfl, ?_⟩
  refine RW.op1 rfl (runs_assign rfl) ?_
  refine RW.op1 rfl (runs_assign rfl) ?_
  refine RW.done ?_
  refine AQ.next ?_
  refine CW.seq ?_
  -- region 5
  refine CW.region ?_
  refine RW.op1 rfl (runs_move rfl) ?_
  refine RW.op1 rfl (runs_move rfl) ?_
  refine RW.call rfl call13 rfl rfl (limit_spec hd1 hst (lm : Int) (by unfold i64ok; omega)) ?_
  rintro e w ⟨rfl, Ld2, hstn, hd1⟩
  clear hst
  have hst := hstn
  clear hstn
  rw [newR4] at hd1
  refine ⟨_, rfl, ?_⟩
  refine RW.done ?_
  refine AQ.next ?_
  refine CW.seq ?_
  refine CW.seq ?_
  -- region 6
  refine CW.region ?_
  refine RW.op1 rfl (runs_assign rfl) ?_
  refine RW.done ?_
  refine AQ.next ?_
  refine CW.block ?_
  -- loop 1
  refine CW.loop (Nat × Imm × Own) (fun x w => I.le x.2.1 ∧ St w0 w x.2.1 (x.2.2 ++ L) ∧ DiskO (.pointer (some a1)) (pwS lm x.1) x.2.2 ∧ x.1 ≤ nn) (fun x => [(0, .int .i64 (nn : Int)), (1, .int .i64 (lm : Int)), (2, vk), (7, .pointer (some a1)), (8, .int .i64 (x.1 : Int))]) (fun x => nn - x.1) ⟨(0, _, _), ⟨hle, hst, hd1, Nat.zero_le _⟩, ⟨rfl, rfl, rfl, rfl, rfl, trivial⟩⟩ ?_
  clear hd1 hle
  rintro ⟨i, I3, Ld3⟩ w ⟨hle, hstn, hd1, hi⟩
  dsimp only at hle hstn hd1 hi ⊢
  clear hst
  have hst := hstn
  clear hstn
  refine CW.seq ?_
  refine CW.seq ?_
  -- region 7
  refine CW.region ?_
  refine RW.op1 rfl (runs_move rfl) ?_
  refine RW.op1 rfl (runs_move rfl) ?_
  refine RW.op1 rfl (runs_lss rfl rfl) ?_
  refine RW.done ?_
  refine AQ.next ?_
  refine CW.cond rfl (fun hc27 => ?_) (fun hc27 => ?_)
  · have hcb27 := hc27
    try simp only [decide_eq_true_eq, decide_eq_false_iff_not] at hc27
    have hi1 : i < nn := by omega
    refine CW.skip ?_
    refine AQ.next ?_
    refine CW.seq ?_
    refine CW.block ?_
    refine CW.seq ?_
    -- region 9
    refine CW.region ?_
    refine RW.op1 rfl (runs_move rfl) ?_
    refine RW.op1 rfl (runs_move rfl) ?_
    refine RW.op1 rfl (runs_rem rfl rfl (by omega)) ?_
    rw [show (i : Int).tmod 4 = ((i % 4 : Nat) : Int) from rfl]
    refine RW.op1 rfl (runs_move rfl) ?_
    refine RW.op1 rfl (runs_mul rfl rfl (by omega)) ?_
    refine RW.op1 rfl (runs_add rfl rfl (by omega)) ?_
    refine RW.call rfl call16 rfl rfl (bytes_spec hst (9 * (i : Int) + 1) 32 (by unfold i64ok; omega) (by decide)) ?_
    rintro e w ⟨I5, vb, hI5, rfl, hstn, hb⟩
    clear hst
    have hst := hstn
    clear hstn
    replace hb : RdB I5 vb (pwB i) := hb
    replace hle := hle.trans hI5
    refine ⟨_, rfl, ?_⟩
    refine RW.call rfl call12 rfl rfl (write_spec hd1 hst ((i % 4 : Nat) : Int) hb (by show (pwP _).length ≤ _; rw [pwP_len]; omega)) ?_
    rintro e w ⟨I6, Ld4, hI6, rfl, hstn, hd1⟩
    clear hst
    have hst := hstn
    clear hstn
    rw [pw_step] at hd1 ⊢
    dsimp only at hd1 ⊢
    replace hle := hle.trans hI6
    refine ⟨_, rfl, ?_⟩
    refine RW.op1 rfl (runs_assign rfl) ?_
    refine RW.done ?_
    refine AQ.next ?_
    refine CW.seq ?_
    -- region 10
    refine CW.region ?_
    refine RW.op1 rfl (runs_move rfl) ?_
    refine RW.op1 rfl (runs_eqI rfl rfl) ?_
    refine RW.op1 rfl (runs_move rfl) ?_
    refine RW.op1 rfl (runs_move rfl) ?_
    refine RW.op1 rfl (runs_lss rfl rfl) ?_
    refine RW.op1 rfl (runs_neB Try.underlying4 rfl rfl) ?_
    refine RW.op1 rfl (runs_move rfl) ?_
    have hk44 := (show ((decide ((if i < lm then (0 : Int) else 8) = 0)) != (decide ((i : Int) < (lm : Int)))) = false by split <;> simp <;> omega)
    refine RW.on_guard rfl rfl rfl rfl hk44 ?_
    refine RW.op1 rfl (runs_move rfl) ?_
    refine RW.on_guard rfl rfl rfl rfl hk44 ?_
    refine RW.op1 rfl (runs_neI rfl rfl) ?_
    refine RW.on_guard rfl rfl rfl rfl hk44 ?_
    refine RW.op1 rfl (runs_move rfl) ?_
    refine RW.split (t := 47) rfl (fun hb47 => ?_) (fun hb47 => ?_)
    · have hb47p := hb47
      try simp only [decide_eq_true_eq, decide_eq_false_iff_not] at hb47p
      refine RW.on_guard rfl rfl rfl rfl hb47 ?_
      refine RW.op1 rfl (runs_move rfl) ?_
      refine RW.on_guard rfl rfl rfl rfl hb47 ?_
      refine RW.op1 rfl (runs_neI rfl rfl) ?_
      refine RW.on_guard rfl rfl rfl rfl hk44 ?_
      refine RW.op1 rfl (runs_pick_true rfl hb47 rfl) ?_
      refine RW.op1 rfl (runs_pick_false rfl hk44 rfl) ?_
      refine RW.done ?_
      refine AQ.next ?_
      refine CW.cond rfl (fun hc => absurd hc (by first | decide | (rw [if_neg (show ¬ i < lm by intro h; rw [if_pos h] at hb47p; exact hb47p rfl)]; decide))) (fun hc => ?_)
      refine CW.skip ?_
      refine AQ.block_normal ?_
      refine AQ.next ?_
      -- region 8
      refine CW.region ?_
      refine RW.op1 rfl (runs_move rfl) ?_
      refine RW.op1 rfl (runs_add rfl rfl (by omega)) ?_
      refine RW.op1 rfl (runs_assign rfl) ?_
      refine RW.done ?_
      exact AQ.again (x := (i, I3, Ld3)) (i + 1, _, _) ⟨hle, hst, hd1, by omega⟩ ⟨rfl, rfl, rfl, rfl, rfl, trivial⟩ (by dsimp only; omega)
    · have hb47p := hb47
      try simp only [decide_eq_true_eq, decide_eq_false_iff_not] at hb47p
      refine RW.off_guard rfl rfl rfl rfl hb47 ?_
      refine RW.off_guard rfl rfl rfl rfl hb47 ?_
      refine RW.on_guard rfl rfl rfl rfl hk44 ?_
      refine RW.op1 rfl (runs_pick_false rfl hb47 rfl) ?_
      refine RW.op1 rfl (runs_pick_false rfl hk44 rfl) ?_
      refine RW.done ?_
      refine AQ.next ?_
      refine CW.cond rfl (fun hc => absurd hc (by first | decide | (rw [if_neg (show ¬ i < lm by intro h; rw [if_pos h] at hb47p; exact hb47p rfl)]; decide))) (fun hc => ?_)
      refine CW.skip ?_
      refine AQ.block_normal ?_
      refine AQ.next ?_
      -- region 8
      refine CW.region ?_
      refine RW.op1 rfl (runs_move rfl) ?_
      refine RW.op1 rfl (runs_add rfl rfl (by omega)) ?_
      refine RW.op1 rfl (runs_assign rfl) ?_
      refine RW.done ?_
      exact AQ.again (x := (i, I3, Ld3)) (i + 1, _, _) ⟨hle, hst, hd1, by omega⟩ ⟨rfl, rfl, rfl, rfl, rfl, trivial⟩ (by dsimp only; omega)
  · have hcb27 := hc27
    try simp only [decide_eq_true_eq, decide_eq_false_iff_not] at hc27
    skip
    refine CW.exit ?_
    refine AQ.past_exit ?_
    refine AQ.past_exit ?_
    refine AQ.block_hit ?_
    refine AQ.next ?_
    refine CW.seq ?_
    refine CW.seq ?_
    -- region 12
    have hin : i = nn := by omega
    subst hin
    refine CW.cut Own (fun y w => St w0 w I3 (y ++ L) ∧ DiskO (.pointer (some a1)) (pwS lm i) y) (fun y => [(0, .int .i64 (i : Int)), (1, .int .i64 (lm : Int)), (2, vk), (7, .pointer (some a1)), (74, .bool false)]) ?_ ?_
    · -- region 12
      refine CW.region ?_
      refine RW.op1 rfl (runs_move rfl) ?_
      refine RW.call rfl call14 rfl rfl (down_spec hd1 hst) ?_
      rintro e w ⟨rfl, hstn⟩
      clear hst
      have hst := hstn
      clear hstn
      refine ⟨_, rfl, ?_⟩
      refine RW.op1 rfl (runs_move rfl) ?_
      refine RW.op1 rfl (runs_move rfl) ?_
      refine RW.op1 rfl (runs_gtr rfl rfl) ?_
      refine RW.op1 rfl (runs_neB Try.underlying4 rfl rfl) ?_
      refine RW.op1 rfl (runs_move rfl) ?_
      have hk58 := (show ((decide (lm < i)) != (decide ((i : Int) > (lm : Int)))) = false by rw [show decide (lm < i) = decide ((i : Int) > (lm : Int)) by rw [decide_eq_decide]; omega]; simp)
      refine RW.on_guard rfl rfl rfl rfl hk58 ?_
      refine RW.op1 rfl (runs_move rfl) ?_
      refine RW.on_guard rfl rfl rfl rfl hk58 ?_
      refine RW.call rfl call20 rfl rfl (pending_spec hd1 hst) ?_
      rintro e w ⟨rfl, hstn⟩
      clear hst
      have hst := hstn
      clear hstn
      rw [show (pwS lm i).pend.length = min i lm from pwP_len _]
      refine ⟨_, rfl, ?_⟩
      refine RW.on_guard rfl rfl rfl rfl hk58 ?_
      refine RW.op1 rfl (runs_move rfl) ?_
      refine RW.on_guard rfl rfl rfl rfl hk58 ?_
      refine RW.op1 rfl (runs_move rfl) ?_
      refine RW.on_guard rfl rfl rfl rfl hk58 ?_
      refine RW.op1 rfl (runs_min rfl rfl) ?_
      refine RW.on_guard rfl rfl rfl rfl hk58 ?_
      refine RW.op1 rfl (runs_neI rfl rfl) ?_
      refine RW.op1 rfl (runs_pick_false rfl hk58 rfl) ?_
      refine RW.op1 rfl (runs_move rfl) ?_
      have hk66 := (show decide (((min i lm : Nat) : Int) ≠ if (lm : Int) < (i : Int) then (lm : Int) else (i : Int)) = false by rw [decide_eq_false_iff_not]; split <;> omega)
      refine RW.on_guard rfl rfl rfl rfl hk66 ?_
      refine RW.op1 rfl (runs_move rfl) ?_
      refine RW.on_guard rfl rfl rfl rfl hk66 ?_
      refine RW.call rfl call14 rfl rfl (down_spec hd1 hst) ?_
      rintro e w ⟨rfl, hstn⟩
      clear hst
      have hst := hstn
      clear hstn
      refine ⟨_, rfl, ?_⟩
      refine RW.on_guard rfl rfl rfl rfl hk66 ?_
      refine RW.op1 rfl (runs_move rfl) ?_
      refine RW.split (t := 69) rfl (fun hb69 => ?_) (fun hb69 => ?_)
      · have hb69p := hb69
        try simp only [decide_eq_true_eq, decide_eq_false_iff_not] at hb69p
        have hdn : (pwS lm i).down = true := hb69
        refine RW.on_guard rfl rfl rfl rfl hb69 ?_
        refine RW.op1 rfl (runs_move rfl) ?_
        refine RW.on_guard rfl rfl rfl rfl hb69 ?_
        refine RW.call rfl call22 rfl rfl (flush_spec hd1 hst) ?_
        rintro e w ⟨Ld6, rfl, hstn, hd1⟩
        clear hst
        have hst := hstn
        clear hstn
        rw [show flushR (pwS lm i) = (pwS lm i, 8) by unfold flushR; rw [if_pos hdn]] at hd1 ⊢
        dsimp only at hd1 ⊢
        refine ⟨_, rfl, ?_⟩
        refine RW.on_guard rfl rfl rfl rfl hb69 ?_
        refine RW.op1 rfl (runs_neI rfl rfl) ?_
        refine RW.on_guard rfl rfl rfl rfl hk66 ?_
        refine RW.op1 rfl (runs_pick_true rfl hb69 rfl) ?_
        refine RW.op1 rfl (runs_pick_false rfl hk66 rfl) ?_
        refine RW.done ?_
        exact AQ.meet _ ⟨hst, hd1⟩ ⟨rfl, rfl, rfl, rfl, (by first | rfl | (show some (Value.bool (decide _)) = _; rw [decide_eq_false (by decide)])), trivial⟩
      · have hb69p := hb69
        try simp only [decide_eq_true_eq, decide_eq_false_iff_not] at hb69p
        skip
        refine RW.off_guard rfl rfl rfl rfl hb69 ?_
        refine RW.off_guard rfl rfl rfl rfl hb69 ?_
        refine RW.off_guard rfl rfl rfl rfl hb69 ?_
        refine RW.on_guard rfl rfl rfl rfl hk66 ?_
        refine RW.op1 rfl (runs_pick_false rfl hb69 rfl) ?_
        refine RW.op1 rfl (runs_pick_false rfl hk66 rfl) ?_
        refine RW.done ?_
        exact AQ.meet _ ⟨hst, hd1⟩ ⟨rfl, rfl, rfl, rfl, (by first | rfl | (show some (Value.bool (decide _)) = _; rw [decide_eq_false (by decide)])), trivial⟩
    · clear hd1
      rintro Ld5 w ⟨hstn, hd1⟩
      clear hst
      have hst := hstn
      clear hstn
      refine AQ.next ?_
      refine CW.cond rfl (fun hc => absurd hc (by decide)) (fun hc => ?_)
      refine CW.skip ?_
      refine AQ.next ?_
      refine CW.seq ?_
      -- region 14
      refine CW.region ?_
      refine RW.op1 rfl (runs_move rfl) ?_
      refine RW.op1 rfl (runs_move rfl) ?_
      refine RW.call rfl call21 rfl rfl (crash_spec hd1 hst (RdL.mono hle hk0)) ?_
      rintro e w ⟨Ld7, rfl, hstn, hd1⟩
      clear hst
      have hst := hstn
      clear hstn
      refine ⟨_, rfl, ?_⟩
      refine RW.done ?_
      refine AQ.next ?_
      refine CW.seq ?_
      refine CW.seq ?_
      -- region 15
      refine CW.region ?_
      refine RW.op1 rfl (runs_assign rfl) ?_
      refine RW.done ?_
      refine AQ.next ?_
      refine CW.block ?_
      -- loop 2
      refine CW.loop (Nat × Imm) (fun x w => I.le x.2 ∧ St w0 w x.2 (Ld7 ++ L) ∧ x.1 ≤ 4) (fun x => [(0, .int .i64 (i : Int)), (1, .int .i64 (lm : Int)), (2, vk), (7, .pointer (some a1)), (10, .int .i64 (x.1 : Int))]) (fun x => 4 - x.1) ⟨(0, _), ⟨hle, hst, Nat.zero_le _⟩, ⟨rfl, rfl, rfl, rfl, rfl, trivial⟩⟩ ?_
      clear hle
      rintro ⟨at_, I8⟩ w ⟨hle, hstn, hat⟩
      dsimp only at hle hstn hat ⊢
      clear hst
      have hst := hstn
      clear hstn
      refine CW.seq ?_
      refine CW.seq ?_
      -- region 16
      refine CW.region ?_
      refine RW.op1 rfl (runs_move rfl) ?_
      refine RW.op1 rfl (runs_lss rfl rfl) ?_
      refine RW.done ?_
      refine AQ.next ?_
      refine CW.cond rfl (fun hc79 => ?_) (fun hc79 => ?_)
      · have hcb79 := hc79
        try simp only [decide_eq_true_eq, decide_eq_false_iff_not] at hc79
        have hat4 : at_ < 4 := by omega
        refine CW.skip ?_
        refine AQ.next ?_
        refine CW.seq ?_
        refine CW.block ?_
        refine CW.seq ?_
        -- region 18
        refine CW.region ?_
        refine RW.opE rfl (runs_makeSlice (n := 32) Try.underlying26 ti5 rfl hst (by omega) (by unfold maxLen; omega)) ?_
        rintro _ w ⟨bz, rfl, hstn⟩
        clear hst
        have hst := hstn
        clear hstn
        rw [made_b8] at hst
        obtain ⟨vz, hvz⟩ : ∃ v, v = Value.slice (some ⟨bz, 0, none⟩) 32 32 := ⟨_, rfl⟩
        have hgz : GrowB 5 vz zs [(bz, .cells (zs.map b8).toArray 5)] := by rw [hvz]; exact GrowB.of_block rfl (by unfold maxLen; decide)
        rw [← hvz]
        refine RW.op1 rfl (runs_assign rfl) ?_
        refine RW.done ?_
        refine AQ.next ?_
        refine CW.seq ?_
        refine CW.seq ?_
        -- region 19
        refine CW.region ?_
        refine RW.op1 rfl (runs_move rfl) ?_
        refine RW.op1 rfl (runs_assign rfl) ?_
        refine RW.done ?_
        refine AQ.next ?_
        refine CW.block ?_
        -- loop 3
        refine CW.loop (Nat × Imm × Own) (fun x w => I.le x.2.1 ∧ St w0 w x.2.1 (x.2.2 ++ (Ld7 ++ L)) ∧ GrowB 5 vz (secR ks at_ x.1) x.2.2 ∧ x.1 % 4 = at_ ∧ (x.1 < min i lm + 4 ∨ x.1 = at_)) (fun x => [(0, .int .i64 (i : Int)), (1, .int .i64 (lm : Int)), (2, vk), (7, .pointer (some a1)), (10, .int .i64 (at_ : Int)), (11, vz), (12, .int .i64 (x.1 : Int))]) (fun x => 20 - x.1) ⟨(at_, _, [(bz, _)]), ⟨hle, hst, by rw [secR_start ks hat4]; exact hgz, Nat.mod_eq_of_lt hat4, .inr rfl⟩, ⟨rfl, rfl, rfl, rfl, rfl, rfl, rfl, trivial⟩⟩ ?_
        clear hle hgz
        rintro ⟨j, I9, Lz⟩ w ⟨hle, hstn, hgz, hj4, hjm⟩
        dsimp only at hle hstn hgz hj4 hjm ⊢
        clear hst
        have hst := hstn
        clear hstn
        have hk9 := RdL.mono hle hk0
        refine CW.seq ?_
        refine CW.seq ?_
        -- region 20
        refine CW.region ?_
        refine RW.op1 rfl (runs_move rfl) ?_
        refine RW.op1 rfl (runs_move rfl) ?_
        refine RW.op1 rfl (runs_move rfl) ?_
        refine RW.op1 rfl (runs_min rfl rfl) ?_
        rw [show (if (lm : Int) < (i : Int) then (lm : Int) else (i : Int)) = ((min i lm : Nat) : Int) by split <;> omega]
        refine RW.op1 rfl (runs_lss rfl rfl) ?_
        refine RW.done ?_
        refine AQ.next ?_
        refine CW.cond rfl (fun hc88 => ?_) (fun hc88 => ?_)
        · have hcb88 := hc88
          try simp only [decide_eq_true_eq, decide_eq_false_iff_not] at hc88
          have hjl : j < min i lm := by omega
          have hfour := secR_four ks hj4
          have hsl := secR_len ks at_ j
          have hpl := pwB_len j
          refine CW.skip ?_
          refine AQ.next ?_
          refine CW.seq ?_
          refine CW.block ?_
          refine CW.seq ?_
          -- region 22
          refine CW.cut Unit (fun _ w => St w0 w I9 (Lz ++ (Ld7 ++ L))) (fun _ => [(0, .int .i64 (i : Int)), (1, .int .i64 (lm : Int)), (2, vk), (7, .pointer (some a1)), (10, .int .i64 (at_ : Int)), (11, vz), (12, .int .i64 (j : Int)), (108, .bool (decide (j < ks.length ∧ (iat ks (j : Int) = 1 ∨ iat ks (j : Int) = 2))))]) ?_ ?_
          · -- region 22
            refine CW.region ?_
            refine RW.op1 rfl (runs_move rfl) ?_
            refine RW.op1 rfl (runs_move rfl) ?_
            refine RW.op1 rfl (RdL.len Try.underlying42 rfl hk9) ?_
            refine RW.op1 rfl (runs_lss rfl rfl) ?_
            refine RW.op1 rfl (runs_move rfl) ?_
            refine RW.split (t := 95) rfl (fun hb95 => ?_) (fun hb95 => ?_)
            · have hb95p := hb95
              try simp only [decide_eq_true_eq, decide_eq_false_iff_not] at hb95p
              refine RW.on_guard rfl rfl rfl rfl hb95 ?_
              refine RW.op1 rfl (runs_move rfl) ?_
              refine RW.on_guard rfl rfl rfl rfl hb95 ?_
              refine RW.op1 rfl (runs_move rfl) ?_
              refine RW.on_guard rfl rfl rfl rfl hb95 ?_
              refine RW.op1 rfl (RdL.indexAddr Try.underlying42 ti3 (by decide) rfl rfl hk9 (by omega)) ?_
              refine RW.on_guard rfl rfl rfl rfl hb95 ?_
              refine RW.op1 rfl (runs_load1 sc3 rfl (hst.cell_imm (RdI.at hk9 (by omega) (by omega)))) ?_
              refine RW.on_guard rfl rfl rfl rfl hb95 ?_
              refine RW.op1 rfl (runs_eqI rfl rfl) ?_
              refine RW.on_guard rfl rfl rfl rfl hb95 ?_
              refine RW.op1 rfl (runs_move rfl) ?_
              refine RW.split (t := 101) rfl (fun hb101 => ?_) (fun hb101 => ?_)
              · have hb101p := hb101
                try simp only [decide_eq_true_eq, decide_eq_false_iff_not] at hb101p
                refine RW.off_guard rfl rfl rfl rfl hb101 ?_
                refine RW.off_guard rfl rfl rfl rfl hb101 ?_
                refine RW.off_guard rfl rfl rfl rfl hb101 ?_
                refine RW.off_guard rfl rfl rfl rfl hb101 ?_
                refine RW.off_guard rfl rfl rfl rfl hb101 ?_
                refine RW.on_guard rfl rfl rfl rfl hb95 ?_
                refine RW.op1 rfl (runs_pick_true rfl hb101 rfl) ?_
                refine RW.op1 rfl (runs_pick_true rfl hb95 rfl) ?_
                refine RW.done ?_
                exact AQ.meet () hst ⟨rfl, rfl, rfl, rfl, rfl, rfl, rfl, keep_b (by simp only [decide_eq_true_eq, true_iff, Bool.false_eq_true, false_iff]; omega), trivial⟩
              · have hb101p := hb101
                try simp only [decide_eq_true_eq, decide_eq_false_iff_not] at hb101p
                refine RW.on_guard rfl rfl rfl rfl hb101 ?_
                refine RW.op1 rfl (runs_move rfl) ?_
                refine RW.on_guard rfl rfl rfl rfl hb101 ?_
                refine RW.op1 rfl (runs_move rfl) ?_
                refine RW.on_guard rfl rfl rfl rfl hb101 ?_
                refine RW.op1 rfl (RdL.indexAddr Try.underlying42 ti3 (by decide) rfl rfl hk9 (by omega)) ?_
                refine RW.on_guard rfl rfl rfl rfl hb101 ?_
                refine RW.op1 rfl (runs_load1 sc3 rfl (hst.cell_imm (RdI.at hk9 (by omega) (by omega)))) ?_
                refine RW.on_guard rfl rfl rfl rfl hb101 ?_
                refine RW.op1 rfl (runs_eqI rfl rfl) ?_
                refine RW.on_guard rfl rfl rfl rfl hb95 ?_
                refine RW.op1 rfl (runs_pick_false rfl hb101 rfl) ?_
                refine RW.op1 rfl (runs_pick_true rfl hb95 rfl) ?_
                refine RW.done ?_
                exact AQ.meet () hst ⟨rfl, rfl, rfl, rfl, rfl, rfl, rfl, keep_b (by simp only [decide_eq_true_eq, true_iff, Bool.false_eq_true, false_iff]; omega), trivial⟩
            · have hb95p := hb95
              try simp only [decide_eq_true_eq, decide_eq_false_iff_not] at hb95p
              refine RW.off_guard rfl rfl rfl rfl hb95 ?_
              refine RW.off_guard rfl rfl rfl rfl hb95 ?_
              refine RW.off_guard rfl rfl rfl rfl hb95 ?_
              refine RW.off_guard rfl rfl rfl rfl hb95 ?_
              refine RW.off_guard rfl rfl rfl rfl hb95 ?_
              refine RW.off_guard rfl rfl rfl rfl hb95 ?_
              refine RW.off_undef rfl rfl rfl rfl ?_
              refine RW.off_undef rfl rfl rfl rfl ?_
              refine RW.off_undef rfl rfl rfl rfl ?_
              refine RW.off_undef rfl rfl rfl rfl ?_
              refine RW.off_undef rfl rfl rfl rfl ?_
              refine RW.off_guard rfl rfl rfl rfl hb95 ?_
              refine RW.op1 rfl (runs_pick_false rfl hb95 rfl) ?_
              refine RW.done ?_
              exact AQ.meet () hst ⟨rfl, rfl, rfl, rfl, rfl, rfl, rfl, keep_b (by simp only [decide_eq_true_eq, true_iff, Bool.false_eq_true, false_iff]; omega), trivial⟩
          · rintro _ w hstn
            clear hst
            have hst := hstn
            clear hstn
            refine AQ.next ?_
            refine CW.cond rfl (fun hc108 => ?_) (fun hc108 => ?_)
            · have hcb108 := hc108
              try simp only [decide_eq_true_eq, decide_eq_false_iff_not] at hc108
              have hkN : (16 * iat ks (j : Int)) = ((keepN ks j : Nat) : Int) := by unfold keepN keptR; rw [if_pos hc108.1, show ks.getD j 0 = iat ks (j : Int) from rfl]; rcases hc108.2 with h | h <;> rw [h] <;> rfl
              have hkl := keepN_le ks j
              have hkp : 0 < keepN ks j := by rcases hc108.2 with h | h <;> rw [h] at hkN <;> omega
              -- region 23
              refine CW.draw (FSt w0 I9 (Ld7 ++ L)) (.q 0 (.q 1 (.q 2 (.q 3 (.q 4 (.q 5 (.q 6 (.q 7 (.q 8 (.q 9 (.l 10 (.l 11 .nil)))))))))))) follows (by kernel_rfl) ⟨_, Imm.le.refl _, hst.draw.sub (List.sublist_append_right _ _)⟩ ?_
              replace hst := hst.draw
              refine DRW.q rfl rfl (fun w' hF => runs_move rfl) ?_
              refine DRW.q rfl rfl (fun w' hF => runs_move rfl) ?_
              refine DRW.q rfl rfl (fun w' hF => runs_move rfl) ?_
              refine DRW.q rfl rfl (fun w' hF => RdL.indexAddr Try.underlying42 ti3 (by decide) rfl rfl hk9 (by omega)) ?_
              refine DRW.q rfl rfl (FSt.load1 sc3 rfl (RdI.at hk9 (by omega) (by omega))) ?_
              refine DRW.q rfl rfl (fun w' hF => runs_mul rfl rfl (by omega)) ?_
              rw [hkN]
              rw [hvz]
              refine DRW.q rfl rfl (fun w' hF => runs_slice_h Try.underlying26 ti5 rfl rfl (by omega)) ?_
              rw [Int.toNat_natCast, sliced0, ← hvz]
              refine DRW.q rfl rfl (fun w' hF => runs_move rfl) ?_
              refine DRW.q rfl rfl (fun w' hF => runs_mul rfl rfl (by omega)) ?_
              refine DRW.q rfl rfl (fun w' hF => runs_add rfl rfl (by omega)) ?_
              refine DRW.call rfl rfl call16 rfl rfl (bytes_spec hst (9 * (j : Int) + 1) 32 (by unfold i64ok; omega) (by decide)) ?_
              rintro e w ⟨I13, vb, hI13, rfl, hstn, hb⟩
              clear hst
              have hst := hstn
              clear hstn
              replace hb : RdB I13 vb (pwB j) := hb
              obtain ⟨Bs, cs, rfl, hsrc⟩ := hb.src hst
              obtain ⟨sa, rfl, _⟩ := hsrc 0 (b8 ((pwB j).getD 0 0)) (by simp [hpl])
              replace hle := hle.trans hI13
              refine ⟨_, rfl, FSt.of hst hI13 (List.sublist_append_right _ _), ?_⟩
              refine DRW.opE rfl rfl (Grow.copyAt (L1 := []) (cs := ((pwB j).take (keepN ks j)).map b8) Try.underlying26 ti5 hgz rfl rfl hst (by rw [List.length_map, List.length_take]; omega) (by omega) (by
                    intro q u hq
                    rw [List.map_take, List.getElem?_take] at hq
                    split at hq
                    · obtain ⟨a', e1, e2⟩ := hsrc q u hq
                      cases e1
                      exact e2
                    · cases hq) (by omega) (by omega) (b8_one _)) ?_
              rintro _ w ⟨Lz2, hstn, hgn⟩
              clear hst
              have hst := hstn
              clear hstn
              refine ⟨FSt.of hst hI13 (List.sublist_append_right _ _), ?_⟩
              refine DRW.done ?_
              refine AQ.block_normal ?_
              refine AQ.next ?_
              -- region 21
              refine CW.region ?_
              refine RW.op1 rfl (runs_move rfl) ?_
              refine RW.op1 rfl (runs_add rfl rfl (by omega)) ?_
              refine RW.op1 rfl (runs_assign rfl) ?_
              refine RW.done ?_
              rw [bytes_over, List.length_take, Nat.min_eq_left (by omega), ← hfour, hsl] at hgn
              exact AQ.again (x := (j, I9, Lz)) (j + 4, _, _) ⟨hle, hst, by show Grow _ _ _ _ _ _; rw [secR_len]; exact hgn, by omega, by omega⟩ ⟨rfl, rfl, rfl, rfl, rfl, rfl, rfl, trivial⟩ (by dsimp only; omega)
            · have hcb108 := hc108
              try simp only [decide_eq_true_eq, decide_eq_false_iff_not] at hc108
              have hk0N : keepN ks j = 0 := by
                unfold keepN
                split
                · rename_i hjk
                  have h12 : ¬ (iat ks (j : Int) = 1 ∨ iat ks (j : Int) = 2) := fun h => hc108 ⟨hjk, h⟩
                  unfold keptR
                  rw [show ks.getD j 0 = iat ks (j : Int) from rfl, if_neg (fun h => h12 (.inl h)), if_neg (fun h => h12 (.inr h))]
                  rfl
                · rfl
              rw [hk0N, List.take_zero, List.nil_append, List.drop_zero] at hfour
              refine CW.skip ?_
              refine AQ.block_normal ?_
              refine AQ.next ?_
              -- region 21
              refine CW.region ?_
              refine RW.op1 rfl (runs_move rfl) ?_
              refine RW.op1 rfl (runs_add rfl rfl (by omega)) ?_
              refine RW.op1 rfl (runs_assign rfl) ?_
              refine RW.done ?_
              exact AQ.again (x := (j, I9, Lz)) (j + 4, _, _) ⟨hle, hst, by rw [hfour]; exact hgz, by omega, by omega⟩ ⟨rfl, rfl, rfl, rfl, rfl, rfl, rfl, trivial⟩ (by dsimp only; omega)
        · have hcb88 := hc88
          try simp only [decide_eq_true_eq, decide_eq_false_iff_not] at hc88
          skip
          refine CW.exit ?_
          refine AQ.past_exit ?_
          refine AQ.past_exit ?_
          refine AQ.block_hit ?_
          refine AQ.next ?_
          refine CW.seq ?_
          -- region 24
          refine CW.region ?_
          obtain ⟨I10, hI10, hstn, hz⟩ := GrowB.freeze hgz hst
          clear hst
          have hst := hstn
          clear hstn
          replace hle := hle.trans hI10
          refine RW.op1 rfl (runs_move rfl) ?_
          refine RW.op1 rfl (runs_move rfl) ?_
          refine RW.call rfl call11 rfl rfl (read_spec hd1 hst (at_ : Int)) ?_
          rintro e w ⟨I15, vr, hI15, rfl, hstn, hr⟩
          clear hst
          have hst := hstn
          clear hstn
          rw [if_pos (pw_may lm i ks hat4), pw_read lm i ks hat4 hj4 (by omega) hjm] at hr
          rw [pw_may lm i ks hat4]
          replace hz := hz.mono hI15
          replace hle := hle.trans hI15
          refine ⟨_, rfl, ?_⟩
          refine RW.op1 rfl (runs_move rfl) ?_
          refine RW.op1 rfl (runs_extract rfl rfl) ?_
          refine RW.op1 rfl (runs_extract rfl rfl) ?_
          refine RW.op1 rfl (runs_assign rfl) ?_
          refine RW.op1 rfl (runs_assign rfl) ?_
          refine RW.done ?_
          refine AQ.next ?_
          refine CW.seq ?_
          -- region 25
          refine CW.region ?_
          refine RW.op1 rfl (runs_move rfl) ?_
          refine RW.op1 rfl (runs_neI rfl rfl) ?_
          refine RW.op1 rfl (runs_move rfl) ?_
          have hk129 := (show decide ((0 : Int) ≠ 0) = false by decide)
          refine RW.on_guard rfl rfl rfl rfl hk129 ?_
          refine RW.op1 rfl (runs_move rfl) ?_
          refine RW.on_guard rfl rfl rfl rfl hk129 ?_
          refine RW.op1 rfl (runs_move rfl) ?_
          refine RW.on_guard rfl rfl rfl rfl hk129 ?_
          refine RW.call rfl call18 rfl rfl (same_spec hst hr hz (by rw [secR_len]; decide)) ?_
          rintro e w ⟨rfl, hstn⟩
          clear hst
          have hst := hstn
          clear hstn
          refine ⟨_, rfl, ?_⟩
          refine RW.on_guard rfl rfl rfl rfl hk129 ?_
          refine RW.op1 rfl (runs_not rfl) ?_
          refine RW.op1 rfl (runs_pick_false rfl hk129 rfl) ?_
          refine RW.done ?_
          refine AQ.next ?_
          refine CW.cond rfl (fun hc => absurd hc (by simp)) (fun hc => ?_)
          refine CW.skip ?_
          refine AQ.block_normal ?_
          refine AQ.next ?_
          -- region 17
          refine CW.region ?_
          refine RW.op1 rfl (runs_move rfl) ?_
          refine RW.op1 rfl (runs_add rfl rfl (by omega)) ?_
          refine RW.op1 rfl (runs_assign rfl) ?_
          refine RW.done ?_
          exact AQ.again (x := (at_, I8)) (at_ + 1, _) ⟨hle, hst, by omega⟩ ⟨rfl, rfl, rfl, rfl, rfl, trivial⟩ (by dsimp only; omega)
      · have hcb79 := hc79
        try simp only [decide_eq_true_eq, decide_eq_false_iff_not] at hc79
        skip
        refine CW.exit ?_
        refine AQ.past_exit ?_
        refine AQ.past_exit ?_
        refine AQ.block_hit ?_
        refine AQ.next ?_
        refine CW.seq ?_
        -- region 27
        refine CW.region ?_
        refine RW.op1 rfl (runs_move rfl) ?_
        refine RW.call rfl call14 rfl rfl (down_spec hd1 hst) ?_
        rintro e w ⟨rfl, hstn⟩
        clear hst
        have hst := hstn
        clear hstn
        refine ⟨_, rfl, ?_⟩
        refine RW.op1 rfl (runs_not rfl) ?_
        refine RW.op1 rfl (runs_move rfl) ?_
        have hk138 := (show (!false) = true from rfl)
        refine RW.on_guard rfl rfl rfl rfl hk138 ?_
        refine RW.op1 rfl (runs_move rfl) ?_
        refine RW.on_guard rfl rfl rfl rfl hk138 ?_
        refine RW.call rfl call20 rfl rfl (pending_spec hd1 hst) ?_
        rintro e w ⟨rfl, hstn⟩
        clear hst
        have hst := hstn
        clear hstn
        refine ⟨_, rfl, ?_⟩
        refine RW.on_guard rfl rfl rfl rfl hk138 ?_
        refine RW.op1 rfl (runs_eqI rfl rfl) ?_
        refine RW.op1 rfl (runs_pick_true rfl hk138 rfl) ?_
        refine RW.op1 rfl (runs_move rfl) ?_
        have hk143 := (show decide (((0 : Nat) : Int) = 0) = true by decide)
        refine RW.on_guard rfl rfl rfl rfl hk143 ?_
        refine RW.call rfl call15 rfl rfl (wakes01_spec hst) ?_
        rintro e w ⟨I19, hI19, rfl, hstn⟩
        clear hst
        have hst := hstn
        clear hstn
        replace hle := hle.trans hI19
        refine ⟨_, rfl, ?_⟩
        refine RW.op1 rfl (runs_pick_true rfl hk143 rfl) ?_
        refine RW.op1 rfl (runs_assign rfl) ?_
        refine RW.done ?_
        refine AQ.next ?_
        refine CW.ret ?_
        refine AQ.ret1 rfl rfl ?_
        exact ⟨rfl, _, hle, hst.sub (List.sublist_append_right _ _)⟩
end Go.Proofs.YtdhgbcbnkddfdaaX
