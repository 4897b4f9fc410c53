/- Items as values, and as bytes; values as items: in plain words. No program in sight. -/
import Derived.Test.YtlmmpcdjkpibcaaV3
import Derived.Test.YtlmmpcdjkpibcaaW1
namespace Go.Proofs.YtlmmpcdjkpibcaaX
set_option linter.unusedVariables false
set_option linter.unusedSimpArgs false
open Go Go.RowKit
variable {w0 w : World} {I : Imm} {L : Own} {P : Program}
def hAV (hs : List HRow) : List AV := hs.flatMap fun h => [.txt h.1, .txt h.2]
def headAV (it : It) : List AV := [.num it.id, .num it.kind, .num it.group, .txt it.name, .txt it.method, .txt it.url, .num (it.heads.length : Int)]
def tailAV (it : It) : List AV := [.txt it.body, .num it.mode, .num it.creds, .txt it.page, .txt it.csp, .num it.refer, .txt it.nurl, .txt it.nmethod, .txt it.nbody, .num it.hops, .num it.tries, .num it.til, .flg it.tainted, .txt it.got, .txt it.tag, .num it.state, .num it.code, .flg it.acked]
/-- An item as values. -/
def itAV (it : It) : List AV := headAV it ++ hAV it.heads ++ tailAV it
/-- Its numbers are numbers. -/
structure ItOk (it : It) : Prop where
  id : i64ok it.id
  kind : i64ok it.kind
  group : i64ok it.group
  mode : i64ok it.mode
  creds : i64ok it.creds
  refer : i64ok it.refer
  hops : i64ok it.hops
  tries : i64ok it.tries
  til : i64ok it.til
  state : i64ok it.state
  code : i64ok it.code
  len : it.heads.length ≤ 100000000
theorem hAV_len (hs : List HRow) : (hAV hs).length = hs.length * 2 := by
  unfold hAV
  induction hs with
  | nil => rfl
  | cons r t ih => rw [List.flatMap_cons, List.length_append, ih, List.length_cons]; simp; omega
theorem itAV_len (it : It) : (itAV it).length = 25 + it.heads.length * 2 := by
  unfold itAV
  rw [List.length_append, List.length_append, hAV_len]
  show 7 + _ + 18 = _
  omega
/-- Values that are of some size at most. -/
def AV.goodB (a : AV) : Prop := ∃ m, a.good m false
theorem good_list : ∀ (av : List AV), (∀ a ∈ av, a.goodB) → ∃ m, ∀ a ∈ av, a.good m false
  | [], _ => ⟨0, by simp⟩
  | a :: r, h => by
    obtain ⟨m, hm⟩ := good_list r (fun x hx => h x (List.mem_cons_of_mem _ hx))
    obtain ⟨k, hk⟩ := h a (List.mem_cons_self ..)
    have up : ∀ (x : AV) (i j : Nat), i ≤ j → x.good i false → x.good j false := by
      intro x i j hij hx
      cases x <;> first | exact hx | exact Nat.le_trans hx hij
    refine ⟨max m k, fun x hx => ?_⟩
    rcases List.mem_cons.1 hx with rfl | hx
    · exact up _ _ _ (Nat.le_max_right _ _) hk
    · exact up _ _ _ (Nat.le_max_left _ _) (hm x hx)
theorem goodN {n : Int} (h : i64ok n) : (AV.num n).goodB := ⟨0, h⟩
theorem goodT (b : ByteArray) : (AV.txt b).goodB := ⟨b.size, Nat.le_refl _⟩
theorem goodF (t : Bool) : (AV.flg t).goodB := ⟨0, trivial⟩
theorem hAV_good (hs : List HRow) : ∀ a ∈ hAV hs, a.goodB := by
  intro a ha
  obtain ⟨r, _, h⟩ := List.mem_flatMap.1 ha
  simp only [List.mem_cons, List.not_mem_nil, or_false] at h
  rcases h with rfl | rfl <;> exact goodT _
theorem itAV_goodB {it : It} (h : ItOk it) : ∀ a ∈ itAV it, a.goodB := by
  intro a ha
  unfold itAV at ha
  rcases List.mem_append.1 ha with ha | ha
  · rcases List.mem_append.1 ha with ha | ha
    · simp only [headAV, List.mem_cons, List.not_mem_nil, or_false] at ha
      rcases ha with rfl | rfl | rfl | rfl | rfl | rfl | rfl
      · exact goodN h.id
      · exact goodN h.kind
      · exact goodN h.group
      · exact goodT _
      · exact goodT _
      · exact goodT _
      · exact goodN (by have := h.len; unfold i64ok; omega)
    · exact hAV_good _ a ha
  · simp only [tailAV, List.mem_cons, List.not_mem_nil, or_false] at ha
    rcases ha with rfl | rfl | rfl | rfl | rfl | rfl | rfl | rfl | rfl | rfl | rfl | rfl | rfl | rfl | rfl | rfl | rfl | rfl
    · exact goodT _
    · exact goodN h.mode
    · exact goodN h.creds
    · exact goodT _
    · exact goodT _
    · exact goodN h.refer
    · exact goodT _
    · exact goodT _
    · exact goodT _
    · exact goodN h.hops
    · exact goodN h.tries
    · exact goodN h.til
    · exact goodF _
    · exact goodT _
    · exact goodT _
    · exact goodN h.state
    · exact goodN h.code
    · exact goodF _
theorem itAV_good {it : It} (h : ItOk it) : ∃ m, ∀ a ∈ itAV it, a.good m false := good_list _ (itAV_goodB h)
/-! ### Values one by one -/
def numOf : AV → Int
  | .num n => n
  | _ => 0
def txtOf : AV → ByteArray
  | .txt b => b
  | _ => ⟨#[]⟩
def flgOf : AV → Bool
  | .flg t => t
  | _ => false
def isNum : AV → Bool
  | .num _ => true
  | _ => false
def isTxt : AV → Bool
  | .txt _ => true
  | _ => false
def isFlg : AV → Bool
  | .flg _ => true
  | _ => false
theorem as_num {m : Nat} {o : Bool} {a : AV} (h : a.good m o) : asV 3 (.int .i64 0) a.v = .int .i64 (numOf a) ∧ asB 3 a.v = isNum a := by
  cases a with
  | num n => simp [AV.v, asV, asB, numOf, isNum]
  | txt b => simp [AV.v, asV, asB, numOf, isNum]
  | flg t => simp [AV.v, asV, asB, numOf, isNum]
  | oth v =>
    have h2 := h.2
    cases v <;> simp [otherV, AV.v, asV, asB, numOf, isNum] at h2 ⊢
    exact ⟨fun e => absurd e h2.1.1, h2.1.1⟩
theorem as_txt {m : Nat} {o : Bool} {a : AV} (h : a.good m o) : asV 9 (.string ⟨#[]⟩) a.v = .string (txtOf a) ∧ asB 9 a.v = isTxt a := by
  cases a with
  | num n => simp [AV.v, asV, asB, txtOf, isTxt]
  | txt b => simp [AV.v, asV, asB, txtOf, isTxt]
  | flg t => simp [AV.v, asV, asB, txtOf, isTxt]
  | oth v =>
    have h2 := h.2
    cases v <;> simp [otherV, AV.v, asV, asB, txtOf, isTxt] at h2 ⊢
    exact ⟨fun e => absurd e h2.1.2, h2.1.2⟩
theorem as_flg {m : Nat} {o : Bool} {a : AV} (h : a.good m o) : asV 4 (.bool false) a.v = .bool (flgOf a) ∧ asB 4 a.v = isFlg a := by
  cases a with
  | num n => simp [AV.v, asV, asB, flgOf, isFlg]
  | txt b => simp [AV.v, asV, asB, flgOf, isFlg]
  | flg t => simp [AV.v, asV, asB, flgOf, isFlg]
  | oth v =>
    have h2 := h.2
    cases v <;> simp [otherV, AV.v, asV, asB, flgOf, isFlg] at h2 ⊢
    exact ⟨fun e => absurd e h2.2, h2.2⟩
theorem atA_nat {av : List AV} {k : Nat} (hk : k < av.length) : atA av (k : Int) = av[k] := by
  rw [atA_in (by omega)]
  rfl
theorem atA_far {av : List AV} {k : Nat} (hk : av.length ≤ k) : atA av (k : Int) = .oth .nilIface := atA_out (by omega)
theorem numOf_ok {m : Nat} {o : Bool} {a : AV} (h : a.good m o) : i64ok (numOf a) := by
  cases a <;> first | exact h | exact (by unfold i64ok; decide : i64ok 0)
theorem is_in {av : List AV} {k : Nat} (h : isNum (atA av k) = true ∨ isTxt (atA av k) = true ∨ isFlg (atA av k) = true) : k < av.length := by
  rcases Nat.lt_or_ge k av.length with h2 | h2
  · exact h2
  · rw [atA_far h2] at h
    simp [isNum, isTxt, isFlg] at h
/-- So many headers, from a place on. -/
def rdH (av : List AV) : Nat → Nat × Bool → List HRow × (Nat × Bool)
  | 0, s => ([], s)
  | k + 1, s => if s.2 = true then ([], s) else
    let r := rdH av k (s.1 + 2, !(isTxt (atA av s.1)) || !(isTxt (atA av (s.1 + 1 : Nat))))
    ((txtOf (atA av s.1), txtOf (atA av (s.1 + 1 : Nat))) :: r.1, r.2)
theorem rdH_bad (av : List AV) (k : Nat) (s : Nat × Bool) (h : s.2 = true) : rdH av k s = ([], s) := by
  cases k with
  | zero => rfl
  | succ k => rw [rdH, if_pos h]
theorem rdH_len (av : List AV) : ∀ (k : Nat) (s : Nat × Bool), (s.2 = false → s.1 ≤ av.length) → (rdH av k s).1.length * 2 + s.1 = (rdH av k s).2.1 ∧ (rdH av k s).2.1 ≤ max s.1 (av.length + 2)
  | 0, s, h => ⟨by simp [rdH], by simp [rdH]; omega⟩
  | k + 1, s, h => by
    by_cases hb : s.2 = true
    · rw [rdH_bad av _ s hb]; exact ⟨by simp, by simp; omega⟩
    · have hs := h (by simpa using hb)
      rw [rdH, if_neg hb]
      obtain ⟨h1, h2⟩ := rdH_len av k (s.1 + 2, !(isTxt (atA av s.1)) || !(isTxt (atA av (s.1 + 1 : Nat)))) (by
        intro hf
        simp only [Bool.or_eq_false_iff, Bool.not_eq_false'] at hf
        have := is_in (.inr (.inl hf.2))
        dsimp only
        omega)
      dsimp only at h1 h2 ⊢
      refine ⟨by rw [List.length_cons]; omega, by omega⟩
def tailBad (av : List AV) (p : Nat) : Bool := !(isTxt (atA av p) && isNum (atA av (p + 1 : Nat)) && isNum (atA av (p + 2 : Nat)) && isTxt (atA av (p + 3 : Nat)) && isTxt (atA av (p + 4 : Nat)) && isNum (atA av (p + 5 : Nat)) && isTxt (atA av (p + 6 : Nat)) && isTxt (atA av (p + 7 : Nat)) && isTxt (atA av (p + 8 : Nat)) && isNum (atA av (p + 9 : Nat)) && isNum (atA av (p + 10 : Nat)) && isNum (atA av (p + 11 : Nat)) && isFlg (atA av (p + 12 : Nat)) && isTxt (atA av (p + 13 : Nat)) && isTxt (atA av (p + 14 : Nat)) && isNum (atA av (p + 15 : Nat)) && isNum (atA av (p + 16 : Nat)) && isFlg (atA av (p + 17 : Nat)))
def headBad (av : List AV) : Bool := !(isNum (atA av (0 : Nat)) && isNum (atA av (1 : Nat)) && isNum (atA av (2 : Nat)) && isTxt (atA av (3 : Nat)) && isTxt (atA av (4 : Nat)) && isTxt (atA av (5 : Nat)) && isNum (atA av (6 : Nat)))
def mkIt (av : List AV) (hs : List HRow) (p : Nat) : It := ⟨numOf (atA av (0 : Nat)), numOf (atA av (1 : Nat)), numOf (atA av (2 : Nat)), txtOf (atA av (3 : Nat)), txtOf (atA av (4 : Nat)), txtOf (atA av (5 : Nat)), hs, txtOf (atA av p), numOf (atA av (p + 1 : Nat)), numOf (atA av (p + 2 : Nat)), txtOf (atA av (p + 3 : Nat)), txtOf (atA av (p + 4 : Nat)), numOf (atA av (p + 5 : Nat)), txtOf (atA av (p + 6 : Nat)), txtOf (atA av (p + 7 : Nat)), txtOf (atA av (p + 8 : Nat)), numOf (atA av (p + 9 : Nat)), numOf (atA av (p + 10 : Nat)), numOf (atA av (p + 11 : Nat)), flgOf (atA av (p + 12 : Nat)), txtOf (atA av (p + 13 : Nat)), txtOf (atA av (p + 14 : Nat)), numOf (atA av (p + 15 : Nat)), numOf (atA av (p + 16 : Nat)), flgOf (atA av (p + 17 : Nat))⟩
def readH (av : List AV) : List HRow × (Nat × Bool) := rdH av (numOf (atA av (6 : Nat))).toNat (7, headBad av)
/-- What values say of an item; do they? -/
def readIt (av : List AV) : It := mkIt av (readH av).1 (readH av).2.1
def readBad (av : List AV) : Bool := (readH av).2.2 || tailBad av (readH av).2.1
theorem mkIt_ok {m : Nat} {o : Bool} {av : List AV} (h : ∀ a ∈ av, a.good m o) {hs : List HRow} (hh : hs.length ≤ 100000000) (p : Nat) : ItOk (mkIt av hs p) :=
  ⟨numOf_ok (atA_good h _), numOf_ok (atA_good h _), numOf_ok (atA_good h _), numOf_ok (atA_good h _), numOf_ok (atA_good h _), numOf_ok (atA_good h _), numOf_ok (atA_good h _), numOf_ok (atA_good h _), numOf_ok (atA_good h _), numOf_ok (atA_good h _), numOf_ok (atA_good h _), hh⟩
theorem readH_le (av : List AV) : (readH av).1.length * 2 + 7 = (readH av).2.1 ∧ (readH av).2.1 ≤ av.length + 9 := by
  have h := rdH_len av (numOf (atA av (6 : Nat))).toNat (7, headBad av) (by
    intro hb
    have : isNum (atA av (6 : Nat)) = true := by
      unfold headBad at hb
      simp only [Bool.not_eq_false', Bool.and_eq_true] at hb
      exact hb.2
    have := is_in (.inl this)
    dsimp only
    omega)
  exact ⟨h.1, by have := h.2; unfold readH; dsimp only at this ⊢; omega⟩
/-- The item of bytes. -/
def decIt (b : List UInt8) : Option It := match decA b with
  | none => none
  | some av => if readBad av = false ∧ encOk (itAV (readIt av)) = true ∧ encA (itAV (readIt av)) = b then some (readIt av) else none
theorem rdH_self (pre post : List AV) : ∀ (hs acc : List HRow), rdH (pre ++ hAV (acc ++ hs) ++ post) hs.length (pre.length + acc.length * 2, false) = (hs, (pre.length + (acc.length + hs.length) * 2, false))
  | [], acc => by simp [rdH]
  | h :: t, acc => by
    have hl : (pre ++ hAV (acc ++ h :: t) ++ post).length = pre.length + (acc.length + t.length + 1) * 2 + post.length := by
      rw [List.length_append, List.length_append, hAV_len, List.length_append, List.length_cons]; omega
    have e0 : pre ++ hAV (acc ++ h :: t) ++ post = (pre ++ hAV acc) ++ (AV.txt h.1 :: AV.txt h.2 :: (hAV t ++ post)) := by
      unfold hAV
      rw [List.flatMap_append, List.flatMap_cons]
      simp
    have hpl : (pre ++ hAV acc).length = pre.length + acc.length * 2 := by rw [List.length_append, hAV_len]
    have a0 : atA (pre ++ hAV (acc ++ h :: t) ++ post) ((pre.length + acc.length * 2 : Nat) : Int) = .txt h.1 := by
      rw [atA_nat (by rw [hl]; omega)]
      simp only [e0]
      rw [List.getElem_append_right (by omega)]
      simp [hpl]
    have a1 : atA (pre ++ hAV (acc ++ h :: t) ++ post) ((pre.length + acc.length * 2 + 1 : Nat) : Int) = .txt h.2 := by
      rw [atA_nat (by rw [hl]; omega)]
      simp only [e0]
      rw [List.getElem_append_right (by omega)]
      simp [hpl, show pre.length + acc.length * 2 + 1 - (pre.length + acc.length * 2) = 1 by omega]
    have ih := rdH_self pre post t (acc ++ [h])
    rw [List.length_cons, rdH, if_neg (Bool.false_ne_true)]
    dsimp only
    rw [a0, a1]
    rw [show acc ++ h :: t = (acc ++ [h]) ++ t by simp]
    rw [List.length_append, List.length_singleton] at ih
    rw [show pre.length + acc.length * 2 + 2 = pre.length + (acc.length + 1) * 2 by omega]
    show ((h.1, h.2) :: (rdH _ t.length (pre.length + (acc.length + 1) * 2, false)).1, (rdH _ t.length (pre.length + (acc.length + 1) * 2, false)).2) = _
    rw [ih, show pre.length + (acc.length + 1 + t.length) * 2 = pre.length + (acc.length + (t.length + 1)) * 2 by omega]
theorem at_head (it : It) {j : Nat} (hj : j < 7) : atA (itAV it) (j : Int) = (headAV it)[j]'hj := by
  rw [atA_nat (by rw [itAV_len]; omega)]
  unfold itAV
  rw [List.getElem_append_left (by rw [List.length_append, hAV_len]; show j < 7 + _; omega), List.getElem_append_left (show j < (headAV it).length from hj)]
  rfl
theorem at_tail (it : It) {j : Nat} (hj : j < 18) : atA (itAV it) ((7 + it.heads.length * 2 + j : Nat) : Int) = (tailAV it)[j]'hj := by
  have hl : (headAV it ++ hAV it.heads).length = 7 + it.heads.length * 2 := by rw [List.length_append, hAV_len]; rfl
  rw [atA_nat (by rw [itAV_len]; omega)]
  unfold itAV
  rw [List.getElem_append_right (by omega)]
  congr 1
  omega
theorem readH_self (it : It) : readH (itAV it) = (it.heads, (7 + it.heads.length * 2, false)) := by
  have e6 : atA (itAV it) ((6 : Nat) : Int) = .num (it.heads.length : Int) := at_head it (j := 6) (by decide)
  have hb : headBad (itAV it) = false := by
    unfold headBad
    rw [at_head it (j := 0) (by decide), at_head it (j := 1) (by decide), at_head it (j := 2) (by decide), at_head it (j := 3) (by decide), at_head it (j := 4) (by decide), at_head it (j := 5) (by decide), at_head it (j := 6) (by decide)]
    rfl
  unfold readH
  rw [e6, hb]
  have h := rdH_self (headAV it) (tailAV it) it.heads []
  simp only [List.nil_append, List.length_nil, Nat.zero_mul, Nat.add_zero, Nat.zero_add] at h
  exact h
theorem readIt_self (it : It) : readIt (itAV it) = it ∧ readBad (itAV it) = false := by
  unfold readIt readBad
  rw [readH_self]
  dsimp only
  have t0 := at_tail it (j := 0) (by decide)
  rw [Nat.add_zero] at t0
  refine ⟨?_, ?_⟩
  · unfold mkIt
    rw [t0, at_head it (j := 0) (by decide), at_head it (j := 1) (by decide), at_head it (j := 2) (by decide), at_head it (j := 3) (by decide), at_head it (j := 4) (by decide), at_head it (j := 5) (by decide), at_tail it (j := 1) (by decide), at_tail it (j := 2) (by decide), at_tail it (j := 3) (by decide), at_tail it (j := 4) (by decide), at_tail it (j := 5) (by decide), at_tail it (j := 6) (by decide), at_tail it (j := 7) (by decide), at_tail it (j := 8) (by decide), at_tail it (j := 9) (by decide), at_tail it (j := 10) (by decide), at_tail it (j := 11) (by decide), at_tail it (j := 12) (by decide), at_tail it (j := 13) (by decide), at_tail it (j := 14) (by decide), at_tail it (j := 15) (by decide), at_tail it (j := 16) (by decide), at_tail it (j := 17) (by decide)]
    rfl
  · unfold tailBad
    rw [t0, at_tail it (j := 1) (by decide), at_tail it (j := 2) (by decide), at_tail it (j := 3) (by decide), at_tail it (j := 4) (by decide), at_tail it (j := 5) (by decide), at_tail it (j := 6) (by decide), at_tail it (j := 7) (by decide), at_tail it (j := 8) (by decide), at_tail it (j := 9) (by decide), at_tail it (j := 10) (by decide), at_tail it (j := 11) (by decide), at_tail it (j := 12) (by decide), at_tail it (j := 13) (by decide), at_tail it (j := 14) (by decide), at_tail it (j := 15) (by decide), at_tail it (j := 16) (by decide), at_tail it (j := 17) (by decide)]
    rfl
theorem encOk_good {m : Nat} {av : List AV} (h : ∀ a ∈ av, a.good m false) (ho : encOk av = true) : ∀ a ∈ av, a.good 255 false := by
  intro a ha
  have h1 := h a ha
  have h2 := List.all_eq_true.1 ho a ha
  cases a with
  | num n => exact h1
  | txt b => exact (by simpa [enc1Ok] using h2 : b.size ≤ 255)
  | flg t => trivial
  | oth v => exact h1
theorem decIt_self {it : It} (h : ItOk it) (ho : encOk (itAV it) = true) : decIt (encA (itAV it)) = some it := by
  obtain ⟨m, hm⟩ := itAV_good h
  obtain ⟨h1, h2⟩ := readIt_self it
  unfold decIt
  rw [decA_encA (Nat.le_refl 255) (encOk_good hm ho)]
  dsimp only
  rw [h1, h2, if_pos ⟨rfl, ho, rfl⟩]
theorem decIt_eq {b : List UInt8} {it : It} (h : decIt b = some it) : encOk (itAV it) = true ∧ encA (itAV it) = b := by
  unfold decIt at h
  cases hd : decA b with
  | none => rw [hd] at h; cases h
  | some av =>
    rw [hd] at h
    dsimp only at h
    split at h
    · rename_i hc
      cases h
      exact hc.2
    · cases h
end Go.Proofs.YtlmmpcdjkpibcaaX
