/- Numbers written out, headers that ask: what these come to. -/
import Derived.Test.YtdelipmhginegaaT
import Derived.Test.YtdelipmhginegaaH5
namespace Go.Proofs.YtdelipmhginegaaX
set_option linter.unusedVariables false
set_option linter.unusedSimpArgs false
open Go Go.RowKit Go.Proofs

def dg (k : Nat) : UInt8 := u8 (48 + (k : Int))
/-- A number's digits, with so much room. -/
def digF : Nat → Nat → List UInt8
  | 0, _ => []
  | f + 1, n => if n < 10 then [dg n] else digF f (n / 10) ++ [dg (n % 10)]
theorem digF_len : ∀ (f n : Nat), (digF f n).length ≤ f
  | 0, _ => Nat.le_refl 0
  | f + 1, n => by
    unfold digF
    have := digF_len f (n / 10)
    split
    · simp
    · simp; omega
def tenS : ByteArray := ⟨#[48, 49, 50, 51, 52, 53, 54, 55, 56, 57]⟩
theorem ten_at : ∀ k, k < 10 → ((tenS.extract k tenS.size).extract 0 ((1 : Int)).toNat) = strOf [dg k] := by decide
theorem ten_size : ∀ k, k < 10 → (1 : Int) ≤ (tenS.extract k tenS.size).size := by decide
theorem strOf_append (a b : List UInt8) : strOf a ++ strOf b = strOf (a ++ b) := by
  apply ByteArray.ext
  rw [ByteArray.data_append]
  simp [strOf]
theorem strOf_size (a : List UInt8) : (strOf a).size = a.length := by
  show a.toArray.size = _
  simp
set_option maxRecDepth 100000 in
set_option maxHeartbeats 1000000 in
theorem digits_step {w0 w : World} {I : Imm} {L : Own} (hst : St w0 w I L) (f : Nat) (ih : ∀ g, f = g + 1 → ∀ (m : Nat) {w0 w : World} {I : Imm} {L : Own}, St w0 w I L → m < 10 ^ g → m ≤ 9223372036854775807 → Calls Try.prog 18 #[.int .i64 (m : Int)] w fun e w' => e = .returned (.string (strOf (digF (g + 1) m))) ∧ St w0 w' I L) (m : Nat) (hm : m < 10 ^ f) (hm2 : m ≤ 9223372036854775807) (hf : f ≤ 100) :
    Calls Try.prog 18 #[.int .i64 (m : Int)] w fun e w' => e = .returned (.string (strOf (digF (f + 1) m))) ∧ St w0 w' I L := by
  refine enter Try.func18 rfl (N := 17) rfl rfl ?_
  simp only [List.zipIdx_cons, List.zipIdx_nil, List.map_cons, List.map_nil, Nat.zero_add, Nat.reduceAdd]
  have hle := Imm.le.refl I
  refine CW.seq ?_
  -- region 0
  refine CW.region ?_
  refine RW.op1 rfl (runs_assign rfl) ?_
  refine RW.done ?_
  refine AQ.next ?_
  refine CW.seq ?_
  refine CW.seq ?_
  -- region 1
  refine CW.region ?_
  refine RW.op1 rfl (runs_move rfl) ?_
  refine RW.op1 rfl (runs_lss rfl rfl) ?_
  refine RW.done ?_
  refine AQ.next ?_
  refine CW.cond rfl (fun hc4 => ?_) (fun hc4 => ?_)
  · have hcb4 := hc4
    try simp only [decide_eq_true_eq, decide_eq_false_iff_not] at hc4
    have hk : m < 10 := by omega
    have ha := ten_at m hk
    have hsz := ten_size m hk
    refine CW.seq ?_
    -- region 2
    refine CW.region ?_
    refine RW.op1 rfl (runs_move rfl) ?_
    refine RW.op1 rfl (runs_max rfl rfl) ?_
    rw [show (if (0 : Int) > (m : Int) then 0 else (m : Int)) = ((m : Nat) : Int) by split <;> omega]
    refine RW.op1 rfl (runs_sliceS_l (s := tenS) Try.underlying9 rfl rfl (by show 0 ≤ (m : Int) ∧ (m : Int) ≤ 10; omega)) ?_
    refine RW.op1 rfl (runs_sliceS_h (s := tenS.extract m tenS.size) (hi := 1) Try.underlying9 rfl rfl (by omega)) ?_
    rw [ha]
    refine RW.op1 rfl (runs_assign rfl) ?_
    refine RW.done ?_
    refine AQ.next ?_
    refine CW.ret ?_
    refine AQ.past_ret ?_
    refine AQ.ret1 rfl rfl ?_
    refine ⟨?_, hst⟩
    unfold digF
    rw [if_pos hk]
  · have hcb4 := hc4
    try simp only [decide_eq_true_eq, decide_eq_false_iff_not] at hc4
    obtain ⟨g, rfl⟩ : ∃ g, f = g + 1 := by
      cases f with
      | zero => simp at hm; omega
      | succ g => exact ⟨g, rfl⟩
    have hk : m % 10 < 10 := Nat.mod_lt _ (by decide)
    have ha := ten_at (m % 10) hk
    have hsz := ten_size (m % 10) hk
    have hlt : m / 10 < 10 ^ g := by rw [Nat.pow_succ] at hm; omega
    have hdl := digF_len (g + 1) (m / 10)
    generalize hkk : m % 10 = k at hk ha hsz
    have hqb : m / 10 ≤ 9223372036854775807 := by omega
    generalize hqq : m / 10 = q at hlt hdl hqb
    refine CW.skip ?_
    refine AQ.next ?_
    refine CW.seq ?_
    -- region 3
    refine CW.drawSt hst (.q 0 (.q 1 (.q 3 (.q 4 (.q 5 (.q 6 (.l 2 (.q 7 (.q 8 .nil))))))))) follows (by kernel_rfl) (fun w hst => ?_)
    refine DRW.q rfl rfl (fun w' hF => runs_move rfl) ?_
    refine DRW.q rfl rfl (fun w' hF => runs_quo rfl rfl (by omega)) ?_
    rw [show (m : Int).tdiv 10 = ((m / 10 : Nat) : Int) from rfl, hqq, wrap_i64 (n := (q : Int)) (by omega)]
    refine DRW.q rfl rfl (fun w' hF => runs_move rfl) ?_
    refine DRW.q rfl rfl (fun w' hF => runs_rem rfl rfl (by omega)) ?_
    rw [show (m : Int).tmod 10 = ((m % 10 : Nat) : Int) from rfl, hkk]
    refine DRW.q rfl rfl (fun w' hF => runs_sliceS_l (s := tenS) Try.underlying9 rfl rfl (by show 0 ≤ (k : Int) ∧ (k : Int) ≤ 10; omega)) ?_
    refine DRW.q rfl rfl (fun w' hF => runs_sliceS_h (s := tenS.extract k tenS.size) (hi := 1) Try.underlying9 rfl rfl (by omega)) ?_
    rw [ha]
    refine DRW.call rfl rfl call18 rfl rfl (ih g rfl q hst hlt hqb) ?_
    rintro e w ⟨rfl, hstn⟩
    clear hst
    have hst := hstn
    clear hstn
    refine ⟨_, rfl, FSt.of hst (Imm.le.refl _) (by first | exact (List.sublist_cons_self _ _).trans (List.sublist_append_right _ _) | exact List.Sublist.refl _ | exact List.sublist_cons_self _ _ | exact List.sublist_append_right _ _ | exact (List.sublist_cons_self _ _).trans (List.sublist_cons_self _ _) | exact (List.sublist_append_right _ _).trans (List.sublist_cons_self _ _) | simp), ?_⟩
    refine DRW.q rfl rfl (fun w' hF => runs_addS rfl rfl (by rw [strOf_size, strOf_size]; simp only [List.length_cons, List.length_nil]; omega)) ?_
    refine DRW.q rfl rfl (fun w' hF => runs_assign rfl) ?_
    refine DRW.done ?_
    refine AQ.next ?_
    refine CW.ret ?_
    refine AQ.ret1 rfl rfl ?_
    refine ⟨?_, hst⟩
    rw [strOf_append]
    conv => rhs; unfold digF
    rw [if_neg (by omega), hkk, hqq]
theorem digits_room : ∀ (f : Nat), f ≤ 100 → ∀ (m : Nat) {w0 w : World} {I : Imm} {L : Own}, St w0 w I L → m < 10 ^ f → m ≤ 9223372036854775807 → Calls Try.prog 18 #[.int .i64 (m : Int)] w fun e w' => e = .returned (.string (strOf (digF (f + 1) m))) ∧ St w0 w' I L := by
  intro f
  induction f with
  | zero => intro hf m w0 w I L hst hm hm2; exact digits_step hst 0 (fun g hg => by omega) m hm hm2 hf
  | succ g ih =>
    intro hf m w0 w I L hst hm hm2
    refine digits_step hst (g + 1) (fun g' hg m' w0 w I L hst hm' hb => ?_) m hm hm2 hf
    obtain rfl : g = g' := by omega
    exact ih (by omega) m' hst hm' hb
end Go.Proofs.YtdelipmhginegaaX
