/- Parsing, told once more; the document's example; digits by hand. -/
import Derived.Test.YtfjghkmapccjhaaDoorT
import Derived.Test.YtfjghkmapccjhaaDoorK6
namespace Go.Proofs.YtfjghkmapccjhaaDoorX
set_option linter.unusedVariables false
set_option linter.unusedSimpArgs false
open Go Go.RowKit Go.Proofs

def outR (s : List UInt8) : RepL := (parseL s).getD ⟨0, [], [], false⟩
def errR (s : List UInt8) : Int := if (parseL s).isSome = true then 0 else 2
theorem parse2_spec {w0 w : World} {I : Imm} {L : Own} (hst : St w0 w I L) (hM : MaxK I) (s : ByteArray) (hs : s.size < 4294967281) :
    Calls Tryd.prog 9 #[.string s] w fun e w' => ∃ I' A cap, Imm.le I I' ∧ e = .returned (.tuple #[.agg #[.int .i64 (outR s.toList).code, .slice A (outR s.toList).heads.length cap, .string (strOf (outR s.toList).body), .bool (outR s.toList).cut], .int .i64 (errR s.toList)]) ∧ St w0 w' I' L ∧
      RdH I' (.slice A (outR s.toList).heads.length cap) ((outR s.toList).heads.map hrowL) ∧ (outR s.toList).heads.length ≤ 8 ∧ (∀ h ∈ (outR s.toList).heads, h.1.length ≤ 20 ∧ h.2.length ≤ 40) ∧ (outR s.toList).body.length ≤ s.size := by
  refine (parse_spec hst hM s hs).mono fun e w' ⟨I', vh, code, body, cut, er, h1, h2, h3, h4⟩ => ?_
  unfold outR errR
  rcases h4 with ⟨g1, rfl, rfl, rfl, rfl, rfl⟩ | ⟨r, g1, rfl, rfl, g2, rfl, rfl, g3, g4, g5⟩
  · rw [g1]
    exact ⟨I', none, 0, h1, h2, h3, RdL.nil 2, Nat.zero_le 8, (fun h hh => by cases hh), Nat.zero_le _⟩
  · rw [g1]
    have g2' := g2
    obtain ⟨_, _, A, cap, e1, _⟩ := g2'
    rw [List.length_map] at e1
    subst e1
    exact ⟨I', A, cap, h1, h2, h3, g2, g3, g4, by rw [← size_toList]; exact g5⟩
theorem out_some {s : List UInt8} {r : RepL} (h : parseL s = some r) : outR s = r ∧ errR s = 0 := by
  unfold outR errR
  rw [h]
  exact ⟨rfl, rfl⟩
theorem out_none {s : List UInt8} (h : parseL s = none) : outR s = ⟨0, [], [], false⟩ ∧ errR s = 2 := by
  unfold outR errR
  rw [h]
  exact ⟨rfl, rfl⟩
theorem dd_unit {n : Nat} (h : n < 10) : Lib.decDigits n = [UInt8.ofNat (48 + n)] := by unfold Lib.decDigits; rw [dif_pos h]
theorem dd_more {n : Nat} (h : ¬ n < 10) : Lib.decDigits n = Lib.decDigits (n / 10) ++ [UInt8.ofNat (48 + n % 10)] := by
  conv => lhs; unfold Lib.decDigits
  rw [dif_neg h]
theorem dd3 (a b c : Nat) (ha : 1 ≤ a) (ha2 : a < 10) (hb : b < 10) (hc : c < 10) : Lib.decDigits (a * 100 + b * 10 + c) = [UInt8.ofNat (48 + a), UInt8.ofNat (48 + b), UInt8.ofNat (48 + c)] := by
  rw [dd_more (by omega), dd_more (by omega), dd_unit (by omega)]
  rw [show (a * 100 + b * 10 + c) / 10 / 10 = a by omega, show (a * 100 + b * 10 + c) / 10 % 10 = b by omega, show (a * 100 + b * 10 + c) % 10 = c by omega]
  rfl
/-- Digits put ahead, one by one. -/
def DigR (K k : Nat) (d : List UInt8) : Prop := (d = [] ∧ k = K) ∨ (d ≠ [] ∧ k = 0 ∧ d = Lib.decDigits K) ∨ (d ≠ [] ∧ 0 < k ∧ Lib.decDigits K = Lib.decDigits k ++ d)
theorem dg_of {m : Nat} (h : m < 10) : dg m = UInt8.ofNat (48 + m) := by
  unfold dg u8
  rw [show ((48 + (m : Int)) % 256).toNat = 48 + m by omega]
theorem DigR.step {K k : Nat} {d : List UInt8} (h : DigR K k d) (hc : d = [] ∨ 0 < k) : DigR K (k / 10) (dg (k % 10) :: d) := by
  rw [dg_of (Nat.mod_lt _ (by decide))]
  by_cases hk : k < 10
  · refine .inr (.inl ⟨by simp, by omega, ?_⟩)
    rcases h with ⟨rfl, rfl⟩ | ⟨h1, h2, _⟩ | ⟨h1, h2, h3⟩
    · rw [dd_unit hk, Nat.mod_eq_of_lt hk]
    · rcases hc with hc | hc
      · exact absurd hc h1
      · omega
    · rw [h3, dd_unit hk, Nat.mod_eq_of_lt hk]
      rfl
  · refine .inr (.inr ⟨by simp, by omega, ?_⟩)
    rcases h with ⟨rfl, rfl⟩ | ⟨h1, h2, _⟩ | ⟨h1, h2, h3⟩
    · exact dd_more hk
    · omega
    · rw [h3, dd_more hk, List.append_assoc]
      rfl
theorem DigR.done {K k : Nat} {d : List UInt8} (h : DigR K k d) (hc : ¬ (d = [] ∨ 0 < k)) : d = Lib.decDigits K := by
  rcases h with ⟨h1, _⟩ | ⟨_, _, h3⟩ | ⟨_, h2, _⟩
  · exact absurd (.inl h1) hc
  · exact h3
  · exact absurd (.inr h2) hc
theorem DigR.len {K k : Nat} {d : List UInt8} (h : DigR K k d) (hK : K < 10000000) : d.length ≤ 8 ∧ k ≤ K := by
  have h8 := dd_le 7 K (by omega)
  rcases h with ⟨rfl, rfl⟩ | ⟨_, rfl, rfl⟩ | ⟨_, h2, h3⟩
  · exact ⟨by simp, Nat.le_refl _⟩
  · exact ⟨h8, Nat.zero_le _⟩
  · have h9 := congrArg List.length h3
    rw [List.length_append] at h9
    have hp := dd_pos k
    have hv : (k : Int) ≤ K := by
      have e1 := dd_val K
      rw [h3, List.foldl_append, dd_val] at e1
      have hall : d.all isDigit = true := by
        rw [List.all_eq_true]
        intro c hc
        exact List.all_eq_true.1 (dd_all K) c (by rw [h3]; simp [hc])
      have hmono : ∀ (l : List UInt8) (x : Int), l.all isDigit = true → 0 ≤ x → x ≤ l.foldl digStep x := by
        intro l
        induction l with
        | nil => intro x _ _; exact Int.le_refl _
        | cons c r ih =>
          intro x ha hx
          rw [List.all_cons, Bool.and_eq_true] at ha
          have hc : 48 ≤ c.toNat := by have := ha.1; unfold isDigit at this; rw [Bool.and_eq_true, decide_eq_true_eq] at this; exact this.1
          rw [List.foldl_cons]
          have hs : digStep x c = 10 * x + ((c.toNat : Int) - 48) := rfl
          have := ih (digStep x c) ha.2 (by rw [hs]; omega)
          rw [hs] at this ⊢
          omega
      have := hmono d k hall (by omega)
      omega
    exact ⟨by omega, by omega⟩
def etagT : List UInt8 := [101, 116, 97, 103]
def etagRow : List UInt8 × HL := ([101, 116, 97, 103, 58, 32, 120], ([101, 116, 97, 103], [120]))
theorem etagRow_ok : GoodR etagRow := ⟨by decide, by decide, by decide⟩
def wakeL : List UInt8 := firstL 200 ++ 13 :: 10 :: rowsT [] []
def wakeS : ByteArray := ⟨#[72, 84, 84, 80, 47, 49, 46, 49, 32, 50, 48, 48, 32, 45, 13, 10, 13, 10]⟩
theorem dd200 : Lib.decDigits 200 = [50, 48, 48] := dd3 2 0 0 (by decide) (by decide) (by decide) (by decide)
theorem dd206 : Lib.decDigits 206 = [50, 48, 54] := dd3 2 0 6 (by decide) (by decide) (by decide) (by decide)
theorem dd503 : Lib.decDigits 503 = [53, 48, 51] := dd3 5 0 3 (by decide) (by decide) (by decide) (by decide)
theorem wake_ok : outR wakeS.toList = ⟨200, [], [], false⟩ ∧ errR wakeS.toList = 0 := by
  have e : wakeS.toList = firstL 200 ++ 13 :: 10 :: rowsT [] [] := by
    unfold firstL
    rw [dd200, ByteArray.toList_eq]
    rfl
  rw [e]
  exact out_some (by rw [parse_rows (by decide) (by decide) [] [] (fun x hx => by cases hx)]; rfl)
set_option maxRecDepth 100000 in
set_option maxHeartbeats 1000000 in
theorem wakes09_spec {w0 w : World} {I : Imm} {L : Own} (hst : St w0 w I L) (hM : MaxK I) :
    Calls Tryd.prog 10 #[] w fun e w' => e = .returned (.bool true) ∧ ∃ I', I.le I' ∧ St w0 w' I' L := by
  refine enter Tryd.func10 rfl (N := 30) rfl rfl ?_
  simp only [List.zipIdx_cons, List.zipIdx_nil, List.map_cons, List.map_nil, Nat.zero_add, Nat.reduceAdd]
  have hle := Imm.le.refl I
  refine CW.seq ?_
  -- region 0
  refine CW.region ?_
  refine RW.op1 rfl (runs_assign rfl) ?_
  refine RW.done ?_
  refine AQ.next ?_
  refine CW.seq ?_
  -- region 1
  refine CW.region ?_
  refine RW.call rfl call9 rfl rfl (parse2_spec hst hM wakeS (by decide)) ?_
  rintro e w ⟨I1, A, cap, hI1, rfl, hstn, hvh, _, _, _⟩
  clear hst
  have hst := hstn
  clear hstn
  rw [wake_ok.1, wake_ok.2] at *
  dsimp only at hvh ⊢
  replace hM := hM.mono hI1
  replace hle := hle.trans hI1
  refine ⟨_, rfl, ?_⟩
  refine RW.op1 rfl (runs_move rfl) ?_
  refine RW.op1 rfl (runs_extract rfl rfl) ?_
  refine RW.op1 rfl (runs_extract rfl rfl) ?_
  refine RW.opE rfl (runs_alloc ti29 hst) ?_
  rintro _ w ⟨b2, rfl, hstn⟩
  clear hst
  have hst := hstn
  clear hstn
  first
    | refine RW.opE0 (runs_storeW ti29 rfl rfl hst (k := 0) rfl rfl rfl (NoFz.zero _) rfl) ?_
    | refine RW.opE0 (runs_storeP ti29 rfl rfl hst (k := 0) rfl rfl rfl (NoFz.zero _) rfl) ?_
    | refine RW.opE0 (runs_storeW ti29 rfl rfl hst (k := 1) rfl rfl rfl (NoFz.zero _) rfl) ?_
    | refine RW.opE0 (runs_storeP ti29 rfl rfl hst (k := 1) rfl rfl rfl (NoFz.zero _) rfl) ?_
    | refine RW.opE0 (runs_storeW ti29 rfl rfl hst (k := 2) rfl rfl rfl (NoFz.zero _) rfl) ?_
    | refine RW.opE0 (runs_storeP ti29 rfl rfl hst (k := 2) rfl rfl rfl (NoFz.zero _) rfl) ?_
  rintro w hstn
  clear hst
  have hst := hstn
  clear hstn
  try simp only [List.set_cons_zero, List.set_cons_succ] at hst
  refine RW.op1 rfl (runs_assign rfl) ?_
  refine RW.done ?_
  refine AQ.next ?_
  refine CW.seq ?_
  -- region 2
  refine CW.region ?_
  refine RW.op1 rfl (runs_move rfl) ?_
  refine RW.op1 rfl (runs_eqI rfl rfl) ?_
  refine RW.op1 rfl (runs_move rfl) ?_
  have hk9 := (show decide ((0 : Int) = 0) = true by decide)
  refine RW.on_guard rfl rfl rfl rfl hk9 ?_
  first
    | refine RW.op1 rfl (runs_fieldAddr0 rfl Tryd.underlying29 rfl ti3 (by decide)) ?_
    | refine RW.op1 rfl (runs_fieldAddr rfl Tryd.underlying29 rfl ti3 (by decide)) ?_
  refine RW.on_guard rfl rfl rfl rfl hk9 ?_
  first
    | refine RW.op1 rfl (runs_load1 sc3 rfl (hst.cell_own (k := 0) rfl rfl)) ?_
    | refine RW.op1 rfl (runs_load1 sc3 rfl (hst.cell_own (k := 1) rfl rfl)) ?_
    | refine RW.op1 rfl (runs_load1 sc3 rfl (hst.cell_own (k := 2) rfl rfl)) ?_
  refine RW.on_guard rfl rfl rfl rfl hk9 ?_
  refine RW.op1 rfl (runs_eqI rfl rfl) ?_
  refine RW.op1 rfl (runs_pick_true rfl hk9 rfl) ?_
  refine RW.op1 rfl (runs_move rfl) ?_
  have hk14 := (show decide ((200 : Int) = 200) = true by decide)
  refine RW.on_guard rfl rfl rfl rfl hk14 ?_
  first
    | refine RW.op1 rfl (runs_fieldAddr0 rfl Tryd.underlying29 rfl ti23 (by decide)) ?_
    | refine RW.op1 rfl (runs_fieldAddr rfl Tryd.underlying29 rfl ti23 (by decide)) ?_
  refine RW.on_guard rfl rfl rfl rfl hk14 ?_
  first
    | refine RW.op1 rfl (runs_load1 sc23 rfl (hst.cell_own (k := 0) rfl rfl)) ?_
    | refine RW.op1 rfl (runs_load1 sc23 rfl (hst.cell_own (k := 1) rfl rfl)) ?_
    | refine RW.op1 rfl (runs_load1 sc23 rfl (hst.cell_own (k := 2) rfl rfl)) ?_
  refine RW.on_guard rfl rfl rfl rfl hk14 ?_
  refine RW.op1 rfl (runs_lenL Tryd.underlying23 rfl) ?_
  refine RW.on_guard rfl rfl rfl rfl hk14 ?_
  refine RW.op1 rfl (runs_eqI rfl rfl) ?_
  refine RW.op1 rfl (runs_pick_true rfl hk14 rfl) ?_
  refine RW.op1 rfl (runs_move rfl) ?_
  have hk20 := (show decide ((((([] : List HL)).length : Nat) : Int) = 0) = true by decide)
  refine RW.on_guard rfl rfl rfl rfl hk20 ?_
  first
    | refine RW.op1 rfl (runs_fieldAddr0 rfl Tryd.underlying29 rfl ti9 (by decide)) ?_
    | refine RW.op1 rfl (runs_fieldAddr rfl Tryd.underlying29 rfl ti9 (by decide)) ?_
  refine RW.on_guard rfl rfl rfl rfl hk20 ?_
  first
    | refine RW.op1 rfl (runs_load1 sc9 rfl (hst.cell_own (k := 0) rfl rfl)) ?_
    | refine RW.op1 rfl (runs_load1 sc9 rfl (hst.cell_own (k := 1) rfl rfl)) ?_
    | refine RW.op1 rfl (runs_load1 sc9 rfl (hst.cell_own (k := 2) rfl rfl)) ?_
  refine RW.on_guard rfl rfl rfl rfl hk20 ?_
  refine RW.op1 rfl (runs_eqS rfl rfl) ?_
  refine RW.op1 rfl (runs_pick_true rfl hk20 rfl) ?_
  refine RW.op1 rfl (runs_move rfl) ?_
  have hk25 := (show ((strOf []).toList == (ByteArray.mk #[]).toList) = true by rw [strOf_toList, emptyL]; rfl)
  refine RW.on_guard rfl rfl rfl rfl hk25 ?_
  first
    | refine RW.op1 rfl (runs_fieldAddr0 rfl Tryd.underlying29 rfl ti4 (by decide)) ?_
    | refine RW.op1 rfl (runs_fieldAddr rfl Tryd.underlying29 rfl ti4 (by decide)) ?_
  refine RW.on_guard rfl rfl rfl rfl hk25 ?_
  first
    | refine RW.op1 rfl (runs_load1 sc4 rfl (hst.cell_own (k := 0) rfl rfl)) ?_
    | refine RW.op1 rfl (runs_load1 sc4 rfl (hst.cell_own (k := 1) rfl rfl)) ?_
    | refine RW.op1 rfl (runs_load1 sc4 rfl (hst.cell_own (k := 2) rfl rfl)) ?_
  refine RW.on_guard rfl rfl rfl rfl hk25 ?_
  refine RW.op1 rfl (runs_not rfl) ?_
  refine RW.op1 rfl (runs_pick_true rfl hk25 rfl) ?_
  refine RW.op1 rfl (runs_assign rfl) ?_
  refine RW.done ?_
  refine AQ.next ?_
  refine CW.ret ?_
  refine AQ.ret1 rfl rfl ?_
  exact ⟨rfl, _, hle, hst.drop1⟩
end Go.Proofs.YtfjghkmapccjhaaDoorX
