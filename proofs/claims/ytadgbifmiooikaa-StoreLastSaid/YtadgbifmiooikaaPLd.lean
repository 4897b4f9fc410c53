/- Parts of a proof, joined: walks through the program's functions and their laws, in the order in which they need each other. -/
import Derived.Test.YtadgbifmiooikaaPLc
import Derived.Test.YtadgbifmiooikaaPLb
namespace Go.Proofs.YtadgbifmiooikaaX
set_option linter.unusedVariables false
set_option linter.unusedSimpArgs false
open Go Go.RowKit
variable {w0 w : World} {I : Imm} {L : Own} {P : Program}
def hAV (hs : List HRow) : List AV := hs.flatMap fun h => [.txt h.1, .txt h.2]
def headAV (it : It) : List AV := [.num it.id, .num it.kind, .num it.group, .txt it.name, .txt it.method, .txt it.url, .num (it.heads.length : Int)]
def tailAV (it : It) : List AV := [.txt it.body, .num it.mode, .num it.creds, .txt it.page, .txt it.csp, .num it.refer, .txt it.nurl, .txt it.nmethod, .txt it.nbody, .num it.hops, .num it.tries, .num it.til, .flg it.tainted, .txt it.got, .txt it.tag, .num it.state, .num it.code, .flg it.acked]
def itAV (it : It) : List AV := headAV it ++ hAV it.heads ++ tailAV it
structure ItOk (it : It) : Prop where
  id : i64ok it.id
  kind : i64ok it.kind
  group : i64ok it.group
  mode : i64ok it.mode
  creds : i64ok it.creds
  refer : i64ok it.refer
  hops : i64ok it.hops
  tries : i64ok it.tries
  til : i64ok it.til
  state : i64ok it.state
  code : i64ok it.code
  len : it.heads.length ≤ 100000000
theorem hAV_len (hs : List HRow) : (hAV hs).length = hs.length * 2 := by
  unfold hAV
  induction hs with
  | nil => rfl
  | cons r t ih => rw [List.flatMap_cons, List.length_append, ih, List.length_cons]; simp; omega
theorem itAV_len (it : It) : (itAV it).length = 25 + it.heads.length * 2 := by
  unfold itAV; rw [List.length_append, List.length_append, hAV_len]
  show 7 + _ + 18 = _
  omega
def AV.goodB (a : AV) : Prop := ∃ m, a.good m false
theorem good_list : ∀ (av : List AV), (∀ a ∈ av, a.goodB) → ∃ m, ∀ a ∈ av, a.good m false
  | [], _ => ⟨0, by simp⟩
  | a :: r, h => by
    obtain ⟨m, hm⟩ := good_list r (fun x hx => h x (List.mem_cons_of_mem _ hx)); obtain ⟨k, hk⟩ := h a (List.mem_cons_self ..)
    have up : ∀ (x : AV) (i j : Nat), i ≤ j → x.good i false → x.good j false := by
      intro x i j hij hx
      cases x <;> first | exact hx | exact Nat.le_trans hx hij
    refine ⟨max m k, fun x hx => ?_⟩
    rcases List.mem_cons.1 hx with rfl | hx
    · exact up _ _ _ (Nat.le_max_right _ _) hk
    · exact up _ _ _ (Nat.le_max_left _ _) (hm x hx)
theorem goodN {n : Int} (h : i64ok n) : (AV.num n).goodB := ⟨0, h⟩
theorem goodT (b : ByteArray) : (AV.txt b).goodB := ⟨b.size, Nat.le_refl _⟩
theorem goodF (t : Bool) : (AV.flg t).goodB := ⟨0, trivial⟩
theorem hAV_good (hs : List HRow) : ∀ a ∈ hAV hs, a.goodB := by
  intro a ha; obtain ⟨r, _, h⟩ := List.mem_flatMap.1 ha
  simp only [List.mem_cons, List.not_mem_nil, or_false] at h
  rcases h with rfl | rfl <;> exact goodT _
theorem itAV_goodB {it : It} (h : ItOk it) : ∀ a ∈ itAV it, a.goodB := by
  intro a ha; unfold itAV at ha
  rcases List.mem_append.1 ha with ha | ha
  · rcases List.mem_append.1 ha with ha | ha
    · simp only [headAV, List.mem_cons, List.not_mem_nil, or_false] at ha
      rcases ha with rfl | rfl | rfl | rfl | rfl | rfl | rfl
      · exact goodN h.id
      · exact goodN h.kind
      · exact goodN h.group
      · exact goodT _
      · exact goodT _
      · exact goodT _
      · exact goodN (by have := h.len; unfold i64ok; omega)
    · exact hAV_good _ a ha
  · simp only [tailAV, List.mem_cons, List.not_mem_nil, or_false] at ha
    rcases ha with rfl | rfl | rfl | rfl | rfl | rfl | rfl | rfl | rfl | rfl | rfl | rfl | rfl | rfl | rfl | rfl | rfl | rfl
    · exact goodT _
    · exact goodN h.mode
    · exact goodN h.creds
    · exact goodT _
    · exact goodT _
    · exact goodN h.refer
    · exact goodT _
    · exact goodT _
    · exact goodT _
    · exact goodN h.hops
    · exact goodN h.tries
    · exact goodN h.til
    · exact goodF _
    · exact goodT _
    · exact goodT _
    · exact goodN h.state
    · exact goodN h.code
    · exact goodF _
theorem itAV_good {it : It} (h : ItOk it) : ∃ m, ∀ a ∈ itAV it, a.good m false := good_list _ (itAV_goodB h)
def numOf : AV → Int
  | .num n => n
  | _ => 0
def txtOf : AV → ByteArray
  | .txt b => b
  | _ => ⟨#[]⟩
def flgOf : AV → Bool
  | .flg t => t
  | _ => false
def isNum : AV → Bool
  | .num _ => true
  | _ => false
def isTxt : AV → Bool
  | .txt _ => true
  | _ => false
def isFlg : AV → Bool
  | .flg _ => true
  | _ => false
theorem as_num {m : Nat} {o : Bool} {a : AV} (h : a.good m o) : asV 3 (.int .i64 0) a.v = .int .i64 (numOf a) ∧ asB 3 a.v = isNum a := by
  cases a with
  | num n => simp [AV.v, asV, asB, numOf, isNum]
  | txt b => simp [AV.v, asV, asB, numOf, isNum]
  | flg t => simp [AV.v, asV, asB, numOf, isNum]
  | oth v =>
    have h2 := h.2
    cases v <;> simp [otherV, AV.v, asV, asB, numOf, isNum] at h2 ⊢
    exact ⟨fun e => absurd e h2.1.1, h2.1.1⟩
theorem as_txt {m : Nat} {o : Bool} {a : AV} (h : a.good m o) : asV 9 (.string ⟨#[]⟩) a.v = .string (txtOf a) ∧ asB 9 a.v = isTxt a := by
  cases a with
  | num n => simp [AV.v, asV, asB, txtOf, isTxt]
  | txt b => simp [AV.v, asV, asB, txtOf, isTxt]
  | flg t => simp [AV.v, asV, asB, txtOf, isTxt]
  | oth v =>
    have h2 := h.2
    cases v <;> simp [otherV, AV.v, asV, asB, txtOf, isTxt] at h2 ⊢
    exact ⟨fun e => absurd e h2.1.2, h2.1.2⟩
theorem as_flg {m : Nat} {o : Bool} {a : AV} (h : a.good m o) : asV 4 (.bool false) a.v = .bool (flgOf a) ∧ asB 4 a.v = isFlg a := by
  cases a with
  | num n => simp [AV.v, asV, asB, flgOf, isFlg]
  | txt b => simp [AV.v, asV, asB, flgOf, isFlg]
  | flg t => simp [AV.v, asV, asB, flgOf, isFlg]
  | oth v =>
    have h2 := h.2
    cases v <;> simp [otherV, AV.v, asV, asB, flgOf, isFlg] at h2 ⊢
    exact ⟨fun e => absurd e h2.2, h2.2⟩
theorem atA_nat {av : List AV} {k : Nat} (hk : k < av.length) : atA av (k : Int) = av[k] := by
  rw [atA_in (by omega)]
  rfl
theorem atA_far {av : List AV} {k : Nat} (hk : av.length ≤ k) : atA av (k : Int) = .oth .nilIface := atA_out (by omega)
theorem numOf_ok {m : Nat} {o : Bool} {a : AV} (h : a.good m o) : i64ok (numOf a) := by
  cases a <;> first | exact h | exact (by unfold i64ok; decide : i64ok 0)
theorem is_in {av : List AV} {k : Nat} (h : isNum (atA av k) = true ∨ isTxt (atA av k) = true ∨ isFlg (atA av k) = true) : k < av.length := by
  rcases Nat.lt_or_ge k av.length with h2 | h2
  · exact h2
  · rw [atA_far h2] at h
    simp [isNum, isTxt, isFlg] at h
def rdH (av : List AV) : Nat → Nat × Bool → List HRow × (Nat × Bool)
  | 0, s => ([], s)
  | k + 1, s => if s.2 = true then ([], s) else
    let r := rdH av k (s.1 + 2, !(isTxt (atA av s.1)) || !(isTxt (atA av (s.1 + 1 : Nat))))
    ((txtOf (atA av s.1), txtOf (atA av (s.1 + 1 : Nat))) :: r.1, r.2)
theorem rdH_bad (av : List AV) (k : Nat) (s : Nat × Bool) (h : s.2 = true) : rdH av k s = ([], s) := by
  cases k with
  | zero => rfl
  | succ k => rw [rdH, if_pos h]
theorem rdH_len (av : List AV) : ∀ (k : Nat) (s : Nat × Bool), (s.2 = false → s.1 ≤ av.length) → (rdH av k s).1.length * 2 + s.1 = (rdH av k s).2.1 ∧ (rdH av k s).2.1 ≤ max s.1 (av.length + 2)
  | 0, s, h => ⟨by simp [rdH], by simp [rdH]; omega⟩
  | k + 1, s, h => by
    by_cases hb : s.2 = true
    · rw [rdH_bad av _ s hb]; exact ⟨by simp, by simp; omega⟩
    · have hs := h (by simpa using hb); rw [rdH, if_neg hb]
      obtain ⟨h1, h2⟩ := rdH_len av k (s.1 + 2, !(isTxt (atA av s.1)) || !(isTxt (atA av (s.1 + 1 : Nat)))) (by
        intro hf
        simp only [Bool.or_eq_false_iff, Bool.not_eq_false'] at hf
        have := is_in (.inr (.inl hf.2)); dsimp only
        omega)
      dsimp only at h1 h2 ⊢; refine ⟨by rw [List.length_cons]; omega, by omega⟩
def tailBad (av : List AV) (p : Nat) : Bool := !(isTxt (atA av p) && isNum (atA av (p + 1 : Nat)) && isNum (atA av (p + 2 : Nat)) && isTxt (atA av (p + 3 : Nat)) && isTxt (atA av (p + 4 : Nat)) && isNum (atA av (p + 5 : Nat)) && isTxt (atA av (p + 6 : Nat)) && isTxt (atA av (p + 7 : Nat)) && isTxt (atA av (p + 8 : Nat)) && isNum (atA av (p + 9 : Nat)) && isNum (atA av (p + 10 : Nat)) && isNum (atA av (p + 11 : Nat)) && isFlg (atA av (p + 12 : Nat)) && isTxt (atA av (p + 13 : Nat)) && isTxt (atA av (p + 14 : Nat)) && isNum (atA av (p + 15 : Nat)) && isNum (atA av (p + 16 : Nat)) && isFlg (atA av (p + 17 : Nat)))
def headBad (av : List AV) : Bool := !(isNum (atA av (0 : Nat)) && isNum (atA av (1 : Nat)) && isNum (atA av (2 : Nat)) && isTxt (atA av (3 : Nat)) && isTxt (atA av (4 : Nat)) && isTxt (atA av (5 : Nat)) && isNum (atA av (6 : Nat)))
def mkIt (av : List AV) (hs : List HRow) (p : Nat) : It := ⟨numOf (atA av (0 : Nat)), numOf (atA av (1 : Nat)), numOf (atA av (2 : Nat)), txtOf (atA av (3 : Nat)), txtOf (atA av (4 : Nat)), txtOf (atA av (5 : Nat)), hs, txtOf (atA av p), numOf (atA av (p + 1 : Nat)), numOf (atA av (p + 2 : Nat)), txtOf (atA av (p + 3 : Nat)), txtOf (atA av (p + 4 : Nat)), numOf (atA av (p + 5 : Nat)), txtOf (atA av (p + 6 : Nat)), txtOf (atA av (p + 7 : Nat)), txtOf (atA av (p + 8 : Nat)), numOf (atA av (p + 9 : Nat)), numOf (atA av (p + 10 : Nat)), numOf (atA av (p + 11 : Nat)), flgOf (atA av (p + 12 : Nat)), txtOf (atA av (p + 13 : Nat)), txtOf (atA av (p + 14 : Nat)), numOf (atA av (p + 15 : Nat)), numOf (atA av (p + 16 : Nat)), flgOf (atA av (p + 17 : Nat))⟩
def readH (av : List AV) : List HRow × (Nat × Bool) := rdH av (numOf (atA av (6 : Nat))).toNat (7, headBad av)
def readIt (av : List AV) : It := mkIt av (readH av).1 (readH av).2.1
def readBad (av : List AV) : Bool := (readH av).2.2 || tailBad av (readH av).2.1
theorem mkIt_ok {m : Nat} {o : Bool} {av : List AV} (h : ∀ a ∈ av, a.good m o) {hs : List HRow} (hh : hs.length ≤ 100000000) (p : Nat) : ItOk (mkIt av hs p) :=
  ⟨numOf_ok (atA_good h _), numOf_ok (atA_good h _), numOf_ok (atA_good h _), numOf_ok (atA_good h _), numOf_ok (atA_good h _), numOf_ok (atA_good h _), numOf_ok (atA_good h _), numOf_ok (atA_good h _), numOf_ok (atA_good h _), numOf_ok (atA_good h _), numOf_ok (atA_good h _), hh⟩
theorem readH_le (av : List AV) : (readH av).1.length * 2 + 7 = (readH av).2.1 ∧ (readH av).2.1 ≤ av.length + 9 := by
  have h := rdH_len av (numOf (atA av (6 : Nat))).toNat (7, headBad av) (by
    intro hb
    have : isNum (atA av (6 : Nat)) = true := by
      unfold headBad at hb
      simp only [Bool.not_eq_false', Bool.and_eq_true] at hb
      exact hb.2
    have := is_in (.inl this); dsimp only
    omega)
  exact ⟨h.1, by have := h.2; unfold readH; dsimp only at this ⊢; omega⟩
def decIt (b : List UInt8) : Option It := match decA b with
  | none => none
  | some av => if readBad av = false ∧ encOk (itAV (readIt av)) = true ∧ encA (itAV (readIt av)) = b then some (readIt av) else none
theorem rdH_self (pre post : List AV) : ∀ (hs acc : List HRow), rdH (pre ++ hAV (acc ++ hs) ++ post) hs.length (pre.length + acc.length * 2, false) = (hs, (pre.length + (acc.length + hs.length) * 2, false))
  | [], acc => by simp [rdH]
  | h :: t, acc => by
    have hl : (pre ++ hAV (acc ++ h :: t) ++ post).length = pre.length + (acc.length + t.length + 1) * 2 + post.length := by
      rw [List.length_append, List.length_append, hAV_len, List.length_append, List.length_cons]; omega
    have e0 : pre ++ hAV (acc ++ h :: t) ++ post = (pre ++ hAV acc) ++ (AV.txt h.1 :: AV.txt h.2 :: (hAV t ++ post)) := by
      unfold hAV; rw [List.flatMap_append, List.flatMap_cons]
      simp
    have hpl : (pre ++ hAV acc).length = pre.length + acc.length * 2 := by rw [List.length_append, hAV_len]
    have a0 : atA (pre ++ hAV (acc ++ h :: t) ++ post) ((pre.length + acc.length * 2 : Nat) : Int) = .txt h.1 := by
      rw [atA_nat (by rw [hl]; omega)]
      simp only [e0]
      rw [List.getElem_append_right (by omega)]
      simp [hpl]
    have a1 : atA (pre ++ hAV (acc ++ h :: t) ++ post) ((pre.length + acc.length * 2 + 1 : Nat) : Int) = .txt h.2 := by
      rw [atA_nat (by rw [hl]; omega)]
      simp only [e0]
      rw [List.getElem_append_right (by omega)]
      simp [hpl, show pre.length + acc.length * 2 + 1 - (pre.length + acc.length * 2) = 1 by omega]
    have ih := rdH_self pre post t (acc ++ [h]); rw [List.length_cons, rdH, if_neg (Bool.false_ne_true)]; dsimp only; rw [a0, a1]; rw [show acc ++ h :: t = (acc ++ [h]) ++ t by simp]; rw [List.length_append, List.length_singleton] at ih; rw [show pre.length + acc.length * 2 + 2 = pre.length + (acc.length + 1) * 2 by omega]
    show ((h.1, h.2) :: (rdH _ t.length (pre.length + (acc.length + 1) * 2, false)).1, (rdH _ t.length (pre.length + (acc.length + 1) * 2, false)).2) = _
    rw [ih, show pre.length + (acc.length + 1 + t.length) * 2 = pre.length + (acc.length + (t.length + 1)) * 2 by omega]
theorem at_head (it : It) {j : Nat} (hj : j < 7) : atA (itAV it) (j : Int) = (headAV it)[j]'hj := by
  rw [atA_nat (by rw [itAV_len]; omega)]; unfold itAV; rw [List.getElem_append_left (by rw [List.length_append, hAV_len]; show j < 7 + _; omega), List.getElem_append_left (show j < (headAV it).length from hj)]
  rfl
theorem at_tail (it : It) {j : Nat} (hj : j < 18) : atA (itAV it) ((7 + it.heads.length * 2 + j : Nat) : Int) = (tailAV it)[j]'hj := by
  have hl : (headAV it ++ hAV it.heads).length = 7 + it.heads.length * 2 := by rw [List.length_append, hAV_len]; rfl
  rw [atA_nat (by rw [itAV_len]; omega)]; unfold itAV; rw [List.getElem_append_right (by omega)]
  congr 1
  omega
theorem readH_self (it : It) : readH (itAV it) = (it.heads, (7 + it.heads.length * 2, false)) := by
  have e6 : atA (itAV it) ((6 : Nat) : Int) = .num (it.heads.length : Int) := at_head it (j := 6) (by decide)
  have hb : headBad (itAV it) = false := by
    unfold headBad; rw [at_head it (j := 0) (by decide), at_head it (j := 1) (by decide), at_head it (j := 2) (by decide), at_head it (j := 3) (by decide), at_head it (j := 4) (by decide), at_head it (j := 5) (by decide), at_head it (j := 6) (by decide)]
    rfl
  unfold readH; rw [e6, hb]; have h := rdH_self (headAV it) (tailAV it) it.heads []
  simp only [List.nil_append, List.length_nil, Nat.zero_mul, Nat.add_zero, Nat.zero_add] at h
  exact h
theorem readIt_self (it : It) : readIt (itAV it) = it ∧ readBad (itAV it) = false := by
  unfold readIt readBad; rw [readH_self]; dsimp only; have t0 := at_tail it (j := 0) (by decide); rw [Nat.add_zero] at t0; refine ⟨?_, ?_⟩
  · unfold mkIt; rw [t0, at_head it (j := 0) (by decide), at_head it (j := 1) (by decide), at_head it (j := 2) (by decide), at_head it (j := 3) (by decide), at_head it (j := 4) (by decide), at_head it (j := 5) (by decide), at_tail it (j := 1) (by decide), at_tail it (j := 2) (by decide), at_tail it (j := 3) (by decide), at_tail it (j := 4) (by decide), at_tail it (j := 5) (by decide), at_tail it (j := 6) (by decide), at_tail it (j := 7) (by decide), at_tail it (j := 8) (by decide), at_tail it (j := 9) (by decide), at_tail it (j := 10) (by decide), at_tail it (j := 11) (by decide), at_tail it (j := 12) (by decide), at_tail it (j := 13) (by decide), at_tail it (j := 14) (by decide), at_tail it (j := 15) (by decide), at_tail it (j := 16) (by decide), at_tail it (j := 17) (by decide)]
    rfl
  · unfold tailBad; rw [t0, at_tail it (j := 1) (by decide), at_tail it (j := 2) (by decide), at_tail it (j := 3) (by decide), at_tail it (j := 4) (by decide), at_tail it (j := 5) (by decide), at_tail it (j := 6) (by decide), at_tail it (j := 7) (by decide), at_tail it (j := 8) (by decide), at_tail it (j := 9) (by decide), at_tail it (j := 10) (by decide), at_tail it (j := 11) (by decide), at_tail it (j := 12) (by decide), at_tail it (j := 13) (by decide), at_tail it (j := 14) (by decide), at_tail it (j := 15) (by decide), at_tail it (j := 16) (by decide), at_tail it (j := 17) (by decide)]
    rfl
theorem encOk_good {m : Nat} {av : List AV} (h : ∀ a ∈ av, a.good m false) (ho : encOk av = true) : ∀ a ∈ av, a.good 255 false := by
  intro a ha; have h1 := h a ha; have h2 := List.all_eq_true.1 ho a ha
  cases a with
  | num n => exact h1
  | txt b => exact (by simpa [enc1Ok] using h2 : b.size ≤ 255)
  | flg t => trivial
  | oth v => exact h1
theorem decIt_self {it : It} (h : ItOk it) (ho : encOk (itAV it) = true) : decIt (encA (itAV it)) = some it := by
  obtain ⟨m, hm⟩ := itAV_good h; obtain ⟨h1, h2⟩ := readIt_self it; unfold decIt; rw [decA_encA (Nat.le_refl 255) (encOk_good hm ho)]; dsimp only; rw [h1, h2, if_pos ⟨rfl, ho, rfl⟩]
theorem decIt_eq {b : List UInt8} {it : It} (h : decIt b = some it) : encOk (itAV it) = true ∧ encA (itAV it) = b := by
  unfold decIt at h
  cases hd : decA b with
  | none => rw [hd] at h; cases h
  | some av =>
    rw [hd] at h; dsimp only at h
    split at h
    · rename_i hc
      cases h
      exact hc.2
    · cases h
end Go.Proofs.YtadgbifmiooikaaX
namespace Go.Proofs.YtadgbifmiooikaaX
set_option linter.unusedVariables false
set_option linter.unusedSimpArgs false
open Go Go.RowKit Go.Proofs
theorem perm3 {α : Type} {a b c : α} {X L : List α} : (X ++ a :: b :: c :: L).Perm (a :: b :: c :: (X ++ L)) := List.perm_middle.trans (List.Perm.cons _ (List.perm_middle.trans (List.Perm.cons _ List.perm_middle)))
theorem runs_appendRA {P : Program} {l : Env} {ty : TypeId} (A : Own) {w0 w : World} {I : Imm} {L : Own} {t e : TypeId} {z : Value} {size bytes : Nat} (ht : P.underlying t = some (.slice e)) (he : TI P e z size bytes) (hz : z.cells.size = size) (h0 : 0 < size) {x y : Operand} {v u : Value} {n m : Nat} {xs news : List Value} {Lv : Own} (hx : ev l x = some v) (hy : ev l y = some u)
    (hst : St w0 w I (A ++ (Lv ++ L))) (hg : Grow e size v n xs Lv) (hr : RdL I size u m news) (hb : (n + m) * bytes ≤ 140737488355328) (hmax : n + m ≤ maxLen) :
    ∃ v' w', Runs P (.call ⟨.builtin .append, #[x, y], #[t, t]⟩) ty l w (.value v') w' ∧ ∃ Lv', St w0 w' I (A ++ (Lv' ++ L)) ∧ Grow e size v' (n + m) (xs ++ news) Lv' := by
  have hp : ∀ X : Own, (A ++ (X ++ L)).Perm (X ++ (A ++ L)) := fun X => by
    rw [← List.append_assoc, ← List.append_assoc]; exact List.perm_append_comm.append_right L
  obtain ⟨v', w', h1, Lv', h2, h3⟩ := runs_appendR (ty := ty) ht he hz h0 hx hy (hst.perm (hp Lv)) hg hr hb hmax; exact ⟨v', w', h1, Lv', h2.perm (hp Lv').symm, h3⟩
set_option maxRecDepth 100000 in
set_option maxHeartbeats 1000000 in
theorem bequal_spec {w0 w : World} {I : Imm} {L : Own} (hst : St w0 w I L) {va vb : Value} {a b : List UInt8} (ha : RdB I va a) (hb : RdB I vb b) :
    Calls Try.prog 65 #[va, vb] w fun e w' => e = .returned (.bool (a == b)) ∧ St w0 w' I L := by
  refine enter Try.func65 rfl (N := 10) rfl rfl ?_
  simp only [List.zipIdx_cons, List.zipIdx_nil, List.map_cons, List.map_nil, Nat.zero_add, Nat.reduceAdd]
  have hle := Imm.le.refl I; refine CW.seq ?_; refine CW.region ?_; refine RW.op1 rfl (runs_assign rfl) ?_; refine RW.done ?_; refine AQ.next ?_; refine CW.seq ?_; refine CW.region ?_; refine RW.op1 rfl (runs_move rfl) ?_; refine RW.op1 rfl (RdB.string Try.underlying60 Try.underlying5 Try.underlying9 rfl ha hst) ?_; refine RW.op1 rfl (runs_move rfl) ?_; refine RW.op1 rfl (RdB.string Try.underlying60 Try.underlying5 Try.underlying9 rfl hb hst) ?_; refine RW.op1 rfl (runs_eqS rfl rfl) ?_; refine RW.op1 rfl (runs_assign rfl) ?_; refine RW.done ?_; refine AQ.next ?_; refine CW.ret ?_; refine AQ.ret1 rfl rfl ?_; refine ⟨?_, hst⟩; rw [strOf_toList, strOf_toList]
def SrcF (I : Imm) (L : Own) (v : Value) (hs : List HRow) : Prop := SrcH I L v hs
theorem SrcF.mono {I I' : Imm} {L : Own} {v : Value} {hs : List HRow} (h : SrcF I L v hs) (hI : I.le I') : SrcF I' L v hs := SrcH.mono h hI (fun p hp => hp)
theorem SrcF.weak {I : Imm} {L L' : Own} {v : Value} {hs : List HRow} (h : SrcF I L v hs) (hL : ∀ p ∈ L, p ∈ L') : SrcF I L' v hs := SrcH.mono h (Imm.le.refl _) hL
theorem SrcF.indexAddr {P : Program} {l : Env} {ty : TypeId} {w0 w : World} {I : Imm} {L L' : Own} {t e : TypeId} {x y : Operand} {v : Value} {hs : List HRow} {k : IntKind} {i : Int} {z : Value} {bytes : Nat} (ht : P.underlying t = some (.slice e)) (he : TI P e z 2 bytes) (hx : ev l x = some v) (hy : ev l y = some (.int k i)) (hv : SrcF I L v hs) (hst : St w0 w I L') (hL : ∀ p ∈ L, p ∈ L') (h : 0 ≤ i ∧ i < hs.length) :
    Runs P (.indexAddr t x y) ty l w (.value (.pointer (some (slPtr v (i.toNat * 2))))) w := by
  obtain ⟨B, c, rfl, hs2⟩ := hv
  have hn : i.toNat < hs.length := by omega
  obtain ⟨a, rfl, _⟩ := hs2 w0 w I L' (Imm.le.refl _) hL hst 0 (.string (hs[0]'(by omega)).1) (by
    cases hs with
    | nil => simp at hn
    | cons r t => rfl)
  exact runs_indexAddr ht he hx hy (by omega)
theorem SrcF.loadRow {P : Program} {l : Env} {ty : TypeId} {w0 w : World} {I : Imm} {L L' : Own} {x : Operand} {T : TypeId} {z : Value} {bytes : Nat} {v : Value} {hs : List HRow} {i : Nat} {r : HRow} (hT : isAggT P T = true) (ht : TI P T z 2 bytes) (hx : ev l x = some (.pointer (some (slPtr v ((i : Int).toNat * 2))))) (hv : SrcF I L v hs) (hst : St w0 w I L') (hL : ∀ p ∈ L, p ∈ L') (hr : hs[i]? = some r) :
    Runs P (.load T x) ty l w (.value (.agg (hrow r).toArray)) w := by
  refine runs_loadA (vs := hrow r) hT ht hx fun j u hj => ?_
  obtain ⟨B, c, rfl, hs2⟩ := hv; obtain ⟨a, rfl, h3⟩ := hs2 w0 w I L' (Imm.le.refl _) hL hst _ u (hrow_at hr j u hj)
  simp only [slPtr]
  rw [Addr.add_add]; exact h3
set_option maxRecDepth 100000 in
set_option maxHeartbeats 4000000 in
theorem itenc_src {w0 w : World} {I : Imm} {L : Own} (hst : St w0 w I L) {it : It} {vh : Value} (hv : SrcF I L vh it.heads) (hok : ItOk it) :
    Calls Try.prog 31 #[itv it vh] w fun e w' => ∃ I' v', I.le I' ∧ e = .returned (.tuple #[v', .int .i64 (if encOk (itAV it) then 0 else 1)]) ∧ St w0 w' I' L ∧ RdB I' v' (if encOk (itAV it) then encA (itAV it) else []) := by
  obtain ⟨m, hgood⟩ := itAV_good hok; have hlen := hok.len
  obtain ⟨A, c, rfl⟩ : ∃ A c, vh = .slice A it.heads.length c := by obtain ⟨A, c, e, _⟩ := hv; exact ⟨A, c, e⟩
  refine enter Try.func31 rfl (N := 114) rfl rfl ?_
  simp only [List.zipIdx_cons, List.zipIdx_nil, List.map_cons, List.map_nil, Nat.zero_add, Nat.reduceAdd]
  have hle := Imm.le.refl I; refine CW.seq ?_; refine CW.region ?_; refine RW.opE rfl (runs_box rfl hst) ?_; rintro _ w ⟨b1, rfl, hstn⟩; clear hst; have hst := hstn; clear hstn; refine RW.op1 rfl (runs_assign rfl) ?_; refine RW.op1 rfl (runs_assign rfl) ?_; refine RW.done ?_; refine AQ.next ?_; refine CW.seq ?_; refine CW.cut (Nat × Nat) (fun y w => St w0 w I ((y.2, Obj.cells #[.string it.page, .string it.csp, .int .i64 it.refer] 36) :: (y.1, Obj.cells #[.string it.method, .string it.url, .slice A it.heads.length c, .string it.body, .int .i64 it.mode, .int .i64 it.creds] 34) :: (b1, Obj.cells #[.int .i64 it.id, .int .i64 it.kind, .int .i64 it.group, .string it.name, .string it.method, .string it.url, .slice A it.heads.length c, .string it.body, .int .i64 it.mode, .int .i64 it.creds, .string it.page, .string it.csp, .int .i64 it.refer, .string it.nurl, .string it.nmethod, .string it.nbody, .int .i64 it.hops, .int .i64 it.tries, .int .i64 it.til, .bool it.tainted, .string it.got, .string it.tag, .int .i64 it.state, .int .i64 it.code, .bool it.acked] 38) :: L)) (fun y => [(1, .pointer (some ⟨b1, 0, none⟩)), (4, .pointer (some ⟨y.1, 0, none⟩)), (5, .pointer (some ⟨y.2, 0, none⟩))]) ?_ ?_
  ·
    refine CW.drawSt hst (.q 0 (.q 1 (.q 2 (.q 3 (.fork (.l 4 (.l 5 (.l 6 (.l 7 .nil)))) (.l 5 (.l 4 (.l 6 (.l 7 .nil))))))))) follows (by kernel_rfl) (fun w hst => ?_)
    refine DRW.q rfl rfl (fun w' hF => runs_fieldAddr0 rfl Try.underlying38 rfl ti34 (by decide)) ?_
    refine DRW.q rfl rfl (FSt.loadN (vs := [_, _, _, _, _, _]) ag34 ti34 rfl (k := 0) rfl rfl rfl) ?_
    refine DRW.q rfl rfl (fun w' hF => runs_fieldAddr0 rfl Try.underlying38 rfl ti36 (by decide)) ?_
    refine DRW.q rfl rfl (FSt.loadN (vs := [_, _, _]) ag36 ti36 rfl (k := 0) rfl rfl rfl) ?_
    refine DRW.fork ?_ ?_
    · refine DRW.opE rfl rfl (runs_alloc ti34 hst) ?_; rintro _ w ⟨b2, rfl, hstn⟩; clear hst; have hst := hstn; clear hstn; refine ⟨FSt.ofA hst (Imm.le.refl _), ?_⟩; refine DRW.opE rfl rfl (runs_alloc ti36 hst) ?_; rintro _ w ⟨b3, rfl, hstn⟩; clear hst; have hst := hstn; clear hstn; refine ⟨FSt.ofA hst (Imm.le.refl _), ?_⟩
      refine DRW.opE0 rfl (runs_storeW ti34 rfl rfl hst (k := 1) rfl rfl rfl (NoFz.zero _) rfl) ?_
      rintro w hstn; clear hst; have hst := hstn; clear hstn; try simp only [List.set_cons_zero, List.set_cons_succ] at hst
      refine ⟨FSt.ofA hst (Imm.le.refl _), ?_⟩
      refine DRW.opE0 rfl (runs_storeW ti36 rfl rfl hst (k := 0) rfl rfl rfl (NoFz.zero _) rfl) ?_
      rintro w hstn; clear hst; have hst := hstn; clear hstn; try simp only [List.set_cons_zero, List.set_cons_succ] at hst
      refine ⟨FSt.ofA hst (Imm.le.refl _), ?_⟩; refine DRW.done ?_
      exact AQ.meet (_, _) hst ⟨rfl, rfl, rfl, trivial⟩
    refine DRW.opE rfl rfl (runs_alloc ti36 hst) ?_; rintro _ w ⟨b6, rfl, hstn⟩; clear hst; have hst := hstn; clear hstn; refine ⟨FSt.ofA hst (Imm.le.refl _), ?_⟩; refine DRW.opE rfl rfl (runs_alloc ti34 hst) ?_; rintro _ w ⟨b7, rfl, hstn⟩; clear hst; have hst := hstn; clear hstn; refine ⟨FSt.ofA hst (Imm.le.refl _), ?_⟩
    refine DRW.opE0 rfl (runs_storeW ti34 rfl rfl hst (k := 0) rfl rfl rfl (NoFz.zero _) rfl) ?_
    rintro w hstn; clear hst; have hst := hstn; clear hstn; try simp only [List.set_cons_zero, List.set_cons_succ] at hst
    refine ⟨FSt.ofA hst (Imm.le.refl _), ?_⟩
    refine DRW.opE0 rfl (runs_storeW ti36 rfl rfl hst (k := 1) rfl rfl rfl (NoFz.zero _) rfl) ?_
    rintro w hstn; clear hst; have hst := hstn; clear hstn; try simp only [List.set_cons_zero, List.set_cons_succ] at hst
    refine ⟨FSt.ofA hst (Imm.le.refl _), ?_⟩; refine DRW.done ?_
    exact AQ.meet (_, _) (hst.perm (List.Perm.swap _ _ _)) ⟨rfl, rfl, rfl, trivial⟩
  · clear hst; rintro ⟨bq, bp⟩ w hst; dsimp only at hst ⊢; refine AQ.next ?_; refine CW.seq ?_; refine CW.region ?_
    refine RW.op1 rfl (runs_fieldAddr0 rfl Try.underlying38 rfl ti3 (by decide)) ?_
    refine RW.op1 rfl (runs_load1 sc3 rfl (hst.cell_own (k := 2) rfl rfl)) ?_
    refine RW.op1 rfl (runs_makeIface con3 rfl) ?_
    refine RW.op1 rfl (runs_fieldAddr0 rfl Try.underlying38 rfl ti3 (by decide)) ?_
    refine RW.op1 rfl (runs_load1 sc3 rfl (hst.cell_own (k := 2) rfl rfl)) ?_
    refine RW.op1 rfl (runs_makeIface con3 rfl) ?_
    refine RW.op1 rfl (runs_fieldAddr0 rfl Try.underlying38 rfl ti3 (by decide)) ?_
    refine RW.op1 rfl (runs_load1 sc3 rfl (hst.cell_own (k := 2) rfl rfl)) ?_
    refine RW.op1 rfl (runs_makeIface con3 rfl) ?_
    refine RW.op1 rfl (runs_fieldAddr0 rfl Try.underlying38 rfl ti9 (by decide)) ?_
    refine RW.op1 rfl (runs_load1 sc9 rfl (hst.cell_own (k := 2) rfl rfl)) ?_
    refine RW.op1 rfl (runs_makeIface con9 rfl) ?_
    refine RW.op1 rfl (runs_fieldAddr0 rfl Try.underlying34 rfl ti9 (by decide)) ?_
    refine RW.op1 rfl (runs_load1 sc9 rfl (hst.cell_own (k := 1) rfl rfl)) ?_
    refine RW.op1 rfl (runs_makeIface con9 rfl) ?_
    refine RW.op1 rfl (runs_fieldAddr0 rfl Try.underlying34 rfl ti9 (by decide)) ?_
    refine RW.op1 rfl (runs_load1 sc9 rfl (hst.cell_own (k := 1) rfl rfl)) ?_
    refine RW.op1 rfl (runs_makeIface con9 rfl) ?_
    refine RW.op1 rfl (runs_fieldAddr0 rfl Try.underlying34 rfl ti32 (by decide)) ?_
    refine RW.op1 rfl (runs_load1 sc32 rfl (hst.cell_own (k := 1) rfl rfl)) ?_
    refine RW.op1 rfl (runs_lenL Try.underlying32 rfl) ?_; refine RW.op1 rfl (runs_makeIface con3 rfl) ?_; refine RW.opE rfl (runs_lit1 (xs := (headAV it).map AV.v) Try.underlying77 ti20 (by decide) rfl rfl rfl (by simp [headAV, AV.v, Value.oneCell']) hst) ?_; rintro u10 w ⟨Lv10, hstn, hg10⟩; clear hst; have hst := hstn; clear hstn; replace hst := hst.perm perm3; have hg35 := hg10; refine RW.op1 rfl (runs_assign rfl) ?_; refine RW.done ?_; refine AQ.next ?_; refine CW.seq ?_; refine CW.seq ?_; refine CW.region ?_
    refine RW.op1 rfl (runs_fieldAddr0 rfl Try.underlying34 rfl ti32 (by decide)) ?_
    refine RW.op1 rfl (runs_load1 sc32 rfl (hst.cell_own (k := 1) rfl rfl)) ?_
    refine RW.op1 rfl (runs_lenL Try.underlying32 rfl) ?_; refine RW.op1 rfl (runs_move rfl) ?_; refine RW.done ?_; refine AQ.next ?_; refine CW.block ?_; refine CW.loop (Nat × Imm × Value × Own) (fun x w => I.le x.2.1 ∧ SrcF x.2.1 L (.slice A it.heads.length c) it.heads ∧ St w0 w x.2.1 ((bp, Obj.cells #[.string it.page, .string it.csp, .int .i64 it.refer] 36) :: (bq, Obj.cells #[.string it.method, .string it.url, .slice A it.heads.length c, .string it.body, .int .i64 it.mode, .int .i64 it.creds] 34) :: (b1, Obj.cells #[.int .i64 it.id, .int .i64 it.kind, .int .i64 it.group, .string it.name, .string it.method, .string it.url, .slice A it.heads.length c, .string it.body, .int .i64 it.mode, .int .i64 it.creds, .string it.page, .string it.csp, .int .i64 it.refer, .string it.nurl, .string it.nmethod, .string it.nbody, .int .i64 it.hops, .int .i64 it.tries, .int .i64 it.til, .bool it.tainted, .string it.got, .string it.tag, .int .i64 it.state, .int .i64 it.code, .bool it.acked] 38) :: (x.2.2.2 ++ L)) ∧ GrowA x.2.2.1 (headAV it ++ hAV (it.heads.take x.1)) x.2.2.2 ∧ x.1 ≤ it.heads.length) (fun x => [(1, .pointer (some ⟨b1, 0, none⟩)), (4, .pointer (some ⟨bq, 0, none⟩)), (5, .pointer (some ⟨bp, 0, none⟩)), (6, x.2.2.1), (37, .slice A it.heads.length c), (38, .int .i64 (it.heads.length : Nat)), (39, .int .i64 (x.1 : Int))]) (fun x => it.heads.length - x.1) ⟨(0, _, _, _), ⟨hle, hv, hst, hg35, Nat.zero_le _⟩, ⟨rfl, rfl, rfl, rfl, rfl, rfl, rfl, trivial⟩⟩ ?_; clear hle hv hst
    rintro ⟨k, J, vo, Lo⟩ w ⟨hle, hv, hst, hg, hk⟩; dsimp only at hle hv hst hg hk ⊢; refine CW.seq ?_; refine CW.region ?_; refine RW.op1 rfl (runs_lss rfl rfl) ?_; refine RW.done ?_; refine AQ.next ?_; refine CW.seq ?_; refine CW.cond rfl (fun hc40 => ?_) (fun hc40 => ?_)
    · have hcb40 := hc40; try simp only [decide_eq_true_eq, decide_eq_false_iff_not] at hc40
      have hk1 : k < it.heads.length := by omega
      obtain ⟨⟨n, d⟩, hr⟩ : ∃ r, it.heads[k] = r := ⟨_, rfl⟩
      have hr2 : it.heads[k]? = some (n, d) := by rw [List.getElem?_eq_getElem hk1, hr]
      have htk : hAV (it.heads.take (k + 1)) = hAV (it.heads.take k) ++ [.txt n, .txt d] := by
        unfold hAV; rw [List.take_add_one, hr2, List.flatMap_append]
        rfl
      have hgl : (headAV it ++ hAV (it.heads.take k)).length = 7 + k * 2 := by rw [List.length_append, hAV_len, List.length_take, Nat.min_eq_left (by omega)]; rfl
      refine CW.skip ?_; refine AQ.next ?_; refine CW.seq ?_; refine CW.block ?_; refine CW.seq ?_; refine CW.region ?_; refine RW.op1 rfl (SrcF.indexAddr Try.underlying32 ti31 rfl rfl hv hst (fun p hp => by simp [hp]) (by omega)) ?_; refine RW.op1 rfl (SrcF.loadRow (r := (n, d)) ag31 ti31 rfl hv hst (fun p hp => by simp [hp]) hr2) ?_; refine RW.opE rfl (runs_alloc ti31 hst) ?_; rintro _ w ⟨b11, rfl, hstn⟩; clear hst; have hst := hstn; clear hstn
      refine RW.opE0 (runs_storeW ti31 rfl rfl hst (k := 0) rfl rfl rfl (NoFz.zero _) rfl) ?_
      rintro w hstn; clear hst; have hst := hstn; clear hstn; try simp only [List.set_cons_zero, List.set_cons_succ] at hst
      refine RW.done ?_; refine AQ.next ?_; refine CW.region ?_; refine RW.op1 rfl (runs_move rfl) ?_
      refine RW.op1 rfl (runs_fieldAddr0 rfl Try.underlying31 rfl ti9 (by decide)) ?_
      refine RW.op1 rfl (runs_load1 sc9 rfl (hst.cell_own (k := 0) rfl rfl)) ?_
      refine RW.op1 rfl (runs_makeIface con9 rfl) ?_
      refine RW.op1 rfl (runs_fieldAddr0 rfl Try.underlying31 rfl ti9 (by decide)) ?_
      refine RW.op1 rfl (runs_load1 sc9 rfl (hst.cell_own (k := 0) rfl rfl)) ?_
      refine RW.op1 rfl (runs_makeIface con9 rfl) ?_; refine RW.opE rfl (runs_lit1 (xs := [AV.txt n, AV.txt d].map AV.v) Try.underlying77 ti20 (by decide) rfl rfl rfl (by simp [AV.v, Value.oneCell']) hst) ?_; rintro u13 w ⟨Lv13, hstn, hg13⟩; clear hst; have hst := hstn; clear hstn; obtain ⟨J13, hJ13, hstn, h13⟩ := Grow.freeze hg13 hst; clear hst; have hst := hstn; clear hstn; replace hv := hv.mono hJ13; replace hle := hle.trans hJ13; try simp only [List.nil_append] at h13
      replace h13 : RdL J13 1 u13 2 ([AV.txt n, AV.txt d].map AV.v) := h13; have hT := h13; refine RW.opE rfl (runs_appendRA [_, _, _, _] Try.underlying77 ti20 rfl (by decide) rfl rfl hst hg hT (by omega) (by unfold maxLen; omega)) ?_; rintro uN w ⟨LvN, hstn, hgN⟩; clear hst; have hst := hstn; clear hstn; refine RW.op1 rfl (runs_assign rfl) ?_; refine RW.done ?_; refine AQ.block_normal ?_; refine AQ.next ?_; refine CW.region ?_; refine RW.op1 rfl (runs_add rfl rfl (by omega)) ?_; refine RW.op1 rfl (runs_move rfl) ?_; refine RW.done ?_
      exact AQ.again (x := (k, J, vo, Lo)) (k + 1, _, uN, LvN) ⟨hle, hv, hst.drop1, by
        dsimp only; unfold GrowA; rw [htk, ← List.append_assoc, List.length_append, List.map_append]
        exact hgN, by dsimp only; omega⟩ ⟨rfl, rfl, rfl, rfl, rfl, rfl, rfl, trivial⟩ (by dsimp only; omega)
    · have hcb40 := hc40; try simp only [decide_eq_true_eq, decide_eq_false_iff_not] at hc40
      skip
      refine CW.exit ?_; refine AQ.past_exit ?_; refine AQ.past_exit ?_; refine AQ.block_hit ?_; refine AQ.next ?_; refine CW.seq ?_; refine CW.region ?_; have hke : it.heads.take k = it.heads := List.take_of_length_le (by omega); rw [hke] at hg
      have hgl : (headAV it ++ hAV it.heads).length = 7 + it.heads.length * 2 := by rw [List.length_append, hAV_len]; rfl
      refine RW.op1 rfl (runs_move rfl) ?_
      refine RW.op1 rfl (runs_fieldAddr0 rfl Try.underlying34 rfl ti9 (by decide)) ?_
      refine RW.op1 rfl (runs_load1 sc9 rfl (hst.cell_own (k := 1) rfl rfl)) ?_
      refine RW.op1 rfl (runs_makeIface con9 rfl) ?_
      refine RW.op1 rfl (runs_fieldAddr0 rfl Try.underlying34 rfl ti3 (by decide)) ?_
      refine RW.op1 rfl (runs_load1 sc3 rfl (hst.cell_own (k := 1) rfl rfl)) ?_
      refine RW.op1 rfl (runs_makeIface con3 rfl) ?_
      refine RW.op1 rfl (runs_fieldAddr0 rfl Try.underlying34 rfl ti3 (by decide)) ?_
      refine RW.op1 rfl (runs_load1 sc3 rfl (hst.cell_own (k := 1) rfl rfl)) ?_
      refine RW.op1 rfl (runs_makeIface con3 rfl) ?_
      refine RW.op1 rfl (runs_fieldAddr0 rfl Try.underlying36 rfl ti9 (by decide)) ?_
      refine RW.op1 rfl (runs_load1 sc9 rfl (hst.cell_own (k := 0) rfl rfl)) ?_
      refine RW.op1 rfl (runs_makeIface con9 rfl) ?_
      refine RW.op1 rfl (runs_fieldAddr0 rfl Try.underlying36 rfl ti9 (by decide)) ?_
      refine RW.op1 rfl (runs_load1 sc9 rfl (hst.cell_own (k := 0) rfl rfl)) ?_
      refine RW.op1 rfl (runs_makeIface con9 rfl) ?_
      refine RW.op1 rfl (runs_fieldAddr0 rfl Try.underlying36 rfl ti3 (by decide)) ?_
      refine RW.op1 rfl (runs_load1 sc3 rfl (hst.cell_own (k := 0) rfl rfl)) ?_
      refine RW.op1 rfl (runs_makeIface con3 rfl) ?_
      refine RW.op1 rfl (runs_fieldAddr0 rfl Try.underlying38 rfl ti9 (by decide)) ?_
      refine RW.op1 rfl (runs_load1 sc9 rfl (hst.cell_own (k := 2) rfl rfl)) ?_
      refine RW.op1 rfl (runs_makeIface con9 rfl) ?_
      refine RW.op1 rfl (runs_fieldAddr0 rfl Try.underlying38 rfl ti9 (by decide)) ?_
      refine RW.op1 rfl (runs_load1 sc9 rfl (hst.cell_own (k := 2) rfl rfl)) ?_
      refine RW.op1 rfl (runs_makeIface con9 rfl) ?_
      refine RW.op1 rfl (runs_fieldAddr0 rfl Try.underlying38 rfl ti9 (by decide)) ?_
      refine RW.op1 rfl (runs_load1 sc9 rfl (hst.cell_own (k := 2) rfl rfl)) ?_
      refine RW.op1 rfl (runs_makeIface con9 rfl) ?_
      refine RW.op1 rfl (runs_fieldAddr0 rfl Try.underlying38 rfl ti3 (by decide)) ?_
      refine RW.op1 rfl (runs_load1 sc3 rfl (hst.cell_own (k := 2) rfl rfl)) ?_
      refine RW.op1 rfl (runs_makeIface con3 rfl) ?_
      refine RW.op1 rfl (runs_fieldAddr0 rfl Try.underlying38 rfl ti3 (by decide)) ?_
      refine RW.op1 rfl (runs_load1 sc3 rfl (hst.cell_own (k := 2) rfl rfl)) ?_
      refine RW.op1 rfl (runs_makeIface con3 rfl) ?_
      refine RW.op1 rfl (runs_fieldAddr0 rfl Try.underlying38 rfl ti3 (by decide)) ?_
      refine RW.op1 rfl (runs_load1 sc3 rfl (hst.cell_own (k := 2) rfl rfl)) ?_
      refine RW.op1 rfl (runs_makeIface con3 rfl) ?_
      refine RW.op1 rfl (runs_fieldAddr0 rfl Try.underlying38 rfl ti4 (by decide)) ?_
      refine RW.op1 rfl (runs_load1 sc4 rfl (hst.cell_own (k := 2) rfl rfl)) ?_
      refine RW.op1 rfl (runs_makeIface con4 rfl) ?_
      refine RW.op1 rfl (runs_fieldAddr0 rfl Try.underlying38 rfl ti9 (by decide)) ?_
      refine RW.op1 rfl (runs_load1 sc9 rfl (hst.cell_own (k := 2) rfl rfl)) ?_
      refine RW.op1 rfl (runs_makeIface con9 rfl) ?_
      refine RW.op1 rfl (runs_fieldAddr0 rfl Try.underlying38 rfl ti9 (by decide)) ?_
      refine RW.op1 rfl (runs_load1 sc9 rfl (hst.cell_own (k := 2) rfl rfl)) ?_
      refine RW.op1 rfl (runs_makeIface con9 rfl) ?_
      refine RW.op1 rfl (runs_fieldAddr0 rfl Try.underlying38 rfl ti3 (by decide)) ?_
      refine RW.op1 rfl (runs_load1 sc3 rfl (hst.cell_own (k := 2) rfl rfl)) ?_
      refine RW.op1 rfl (runs_makeIface con3 rfl) ?_
      refine RW.op1 rfl (runs_fieldAddr0 rfl Try.underlying38 rfl ti3 (by decide)) ?_
      refine RW.op1 rfl (runs_load1 sc3 rfl (hst.cell_own (k := 2) rfl rfl)) ?_
      refine RW.op1 rfl (runs_makeIface con3 rfl) ?_
      refine RW.op1 rfl (runs_fieldAddr0 rfl Try.underlying38 rfl ti4 (by decide)) ?_
      refine RW.op1 rfl (runs_load1 sc4 rfl (hst.cell_own (k := 2) rfl rfl)) ?_
      refine RW.op1 rfl (runs_makeIface con4 rfl) ?_; refine RW.opE rfl (runs_lit1 (xs := (tailAV it).map AV.v) Try.underlying77 ti20 (by decide) rfl rfl rfl (by simp [tailAV, AV.v, Value.oneCell']) hst) ?_; rintro u15 w ⟨Lv15, hstn, hg15⟩; clear hst; have hst := hstn; clear hstn; obtain ⟨J15, hJ15, hstn, h15⟩ := Grow.freeze hg15 hst; clear hst; have hst := hstn; clear hstn; replace hv := hv.mono hJ15; replace hle := hle.trans hJ15; try simp only [List.nil_append] at h15
      replace h15 : RdL J15 1 u15 18 ((tailAV it).map AV.v) := h15; have hT := h15; refine RW.opE rfl (runs_appendRA [_, _, _] Try.underlying77 ti20 rfl (by decide) rfl rfl hst hg hT (by omega) (by unfold maxLen; omega)) ?_; rintro uN w ⟨LvN, hstn, hgN⟩; clear hst; have hst := hstn; clear hstn; refine RW.op1 rfl (runs_assign rfl) ?_; refine RW.done ?_; refine AQ.next ?_; refine CW.seq ?_; refine CW.region ?_; replace hst : St _ _ _ (_ :: _ :: _ :: (LvN ++ L)) := hst; obtain ⟨J9, hJ9, hstn, hall⟩ := hgN.freeze (hst.perm perm3.symm); clear hst; have hst := hstn; clear hstn; replace hle := hle.trans hJ9; replace hv := hv.mono hJ9
      have hall2 : RdA J9 uN (itAV it) := by
        unfold RdA itAV; rw [List.length_append, List.map_append]; exact hall
      refine RW.op1 rfl (runs_move rfl) ?_; refine RW.call rfl call33 rfl rfl (enc_spec hst hall2 hgood (by rw [itAV_len]; omega)) ?_; rintro e w ⟨J111, v111, hJ111, rfl, hstn, hv111⟩; clear hst; have hst := hstn; clear hstn; replace hv := hv.mono hJ111; replace hle := hle.trans hJ111; refine ⟨_, rfl, ?_⟩; refine RW.op1 rfl (runs_extract rfl rfl) ?_; refine RW.op1 rfl (runs_extract rfl rfl) ?_; refine RW.op1 rfl (runs_assign rfl) ?_; refine RW.op1 rfl (runs_assign rfl) ?_; refine RW.done ?_; refine AQ.next ?_; refine CW.ret ?_; refine AQ.ret2 rfl rfl rfl ?_; exact ⟨_, v111, hle, rfl, hst.drop1.drop1.drop1, hv111⟩
theorem itenc_spec {w0 w : World} {I : Imm} {L : Own} (hst : St w0 w I L) {it : It} {vh : Value} (hv : RdH I vh it.heads) (hok : ItOk it) :
    Calls Try.prog 31 #[itv it vh] w fun e w' => ∃ I' v', I.le I' ∧ e = .returned (.tuple #[v', .int .i64 (if encOk (itAV it) then 0 else 1)]) ∧ St w0 w' I' L ∧ RdB I' v' (if encOk (itAV it) then encA (itAV it) else []) := itenc_src hst (hv.srcH _) hok
set_option maxRecDepth 100000 in
set_option maxHeartbeats 1000000 in
theorem rd_number_spec {w0 w : World} {I : Imm} {L : Own} {bR : Nat} {v : Value} {s : Nat} {bad : Bool} (hst : St w0 w I ((bR, Obj.cells #[v, .int .i64 ((s : Nat) : Int), .bool bad] 141) :: L)) {av : List AV} {m : Nat} {o : Bool} (hv : RdA I v av) (hgood : ∀ a ∈ av, a.good m o) (hs : s ≤ 4000000000) :
    Calls Try.prog 89 #[.pointer (some ⟨bR, 0, none⟩)] w fun e w' => ∃ bad', e = .returned (.int .i64 (numOf (atA av (s : Int)))) ∧ bad' = (bad || !isNum (atA av (s : Int))) ∧ St w0 w' I ((bR, Obj.cells #[v, .int .i64 ((s + 1 : Nat) : Int), .bool bad'] 141) :: L) := by
  refine enter Try.func89 rfl (N := 37) rfl rfl ?_
  simp only [List.zipIdx_cons, List.zipIdx_nil, List.map_cons, List.map_nil, Nat.zero_add, Nat.reduceAdd]
  have hle := Imm.le.refl I; refine CW.seq ?_; refine CW.region ?_; refine RW.op1 rfl (runs_assign rfl) ?_; refine RW.done ?_; refine AQ.next ?_; refine CW.seq ?_; refine CW.drawSt hst (.q 0 (.q 1 (.q 2 (.q 3 (.q 4 (.q 5 (.q 6 (.q 7 (.l 8 (.q 9 (.q 10 (.q 11 (.q 12 (.q 13 .nil)))))))))))))) follows (by kernel_rfl) (fun w hst => ?_); refine DRW.q rfl rfl (fun w' hF => runs_move rfl) ?_; refine DRW.q rfl rfl (fun w' hF => runs_nilCheck rfl) ?_
  refine DRW.q rfl rfl (fun w' hF => runs_fieldAddr0 rfl Try.underlying141 rfl ti77 (by decide)) ?_
  refine DRW.q rfl rfl (FSt.load1_own sc77 rfl (k := 0) rfl rfl) ?_
  refine DRW.q rfl rfl (fun w' hF => runs_move rfl) ?_; refine DRW.q rfl rfl (fun w' hF => runs_nilCheck rfl) ?_
  refine DRW.q rfl rfl (fun w' hF => runs_fieldAddr0 rfl Try.underlying141 rfl ti3 (by decide)) ?_
  refine DRW.q rfl rfl (FSt.load1_own sc3 rfl (k := 0) rfl rfl) ?_
  refine DRW.call rfl rfl call46 rfl rfl (int_spec hst hv hgood (s : Int)) ?_; rintro e w ⟨rfl, hstn⟩; clear hst; have hst := hstn; clear hstn; have has := as_num (atA_good hgood (s : Int)); rw [has.1, has.2]; refine ⟨_, rfl, FSt.ofA hst (Imm.le.refl _), ?_⟩; refine DRW.q rfl rfl (fun w' hF => runs_move rfl) ?_; refine DRW.q rfl rfl (fun w' hF => runs_extract rfl rfl) ?_; refine DRW.q rfl rfl (fun w' hF => runs_extract rfl rfl) ?_; refine DRW.q rfl rfl (fun w' hF => runs_assign rfl) ?_; refine DRW.q rfl rfl (fun w' hF => runs_assign rfl) ?_; refine DRW.done ?_; refine AQ.next ?_; refine CW.seq ?_; refine CW.draw (fun _ => True) (.q 0 (.q 1 (.q 2 (.q 3 (.q 4 (.q 7 (.q 8 (.q 9 (.fork (.l 5 (.q 6 (.l 10 (.q 11 (.q 12 (.q 13 (.q 14 (.q 15 (.q 16 (.l 17 (.q 18 (.q 19 (.l 20 .nil))))))))))))) (.l 10 (.q 11 (.q 12 (.q 13 (.q 14 (.l 5 (.q 6 (.q 15 (.q 16 (.l 17 (.q 18 (.q 19 (.l 20 .nil)))))))))))))))))))))) follows (by kernel_rfl) trivial ?_; replace hst := hst.draw; refine DRW.q rfl rfl (fun w' hF => runs_move rfl) ?_; refine DRW.q rfl rfl (fun w' hF => runs_move rfl) ?_; refine DRW.q rfl rfl (fun w' hF => runs_move rfl) ?_; refine DRW.q rfl rfl (fun w' hF => runs_nilCheck rfl) ?_
  refine DRW.q rfl rfl (fun w' hF => runs_fieldAddr0 rfl Try.underlying141 rfl ti3 (by decide)) ?_
  refine DRW.q rfl rfl (fun w' hF => runs_move rfl) ?_; refine DRW.q rfl rfl (fun w' hF => runs_nilCheck rfl) ?_
  refine DRW.q rfl rfl (fun w' hF => runs_fieldAddr0 rfl Try.underlying141 rfl ti4 (by decide)) ?_
  refine DRW.fork ?_ ?_
  · refine DRW.op1 rfl rfl (runs_load1 sc3 rfl (hst.cell_own (k := 0) rfl rfl)) trivial ?_
    refine DRW.q rfl rfl (fun w' hF => runs_add rfl rfl (by omega)) ?_
    refine DRW.op1 rfl rfl (runs_load1 sc4 rfl (hst.cell_own (k := 0) rfl rfl)) trivial ?_
    refine DRW.q rfl rfl (fun w' hF => runs_move rfl) ?_; refine DRW.split (t := 28) rfl (fun hb28 => ?_) (fun hb28 => ?_)
    · have hb28p := hb28; try simp only [decide_eq_true_eq, decide_eq_false_iff_not] at hb28p
      refine DRW.q_off rfl rfl rfl rfl hb28 rfl ?_; refine DRW.q_off rfl rfl rfl rfl hb28 rfl ?_; refine DRW.q rfl rfl (fun w' hF => runs_pick_true rfl hb28 rfl) ?_; refine DRW.q rfl rfl (fun w' hF => runs_nilCheck rfl) ?_
      refine DRW.q rfl rfl (fun w' hF => runs_fieldAddr0 rfl Try.underlying141 rfl ti3 (by decide)) ?_
      refine DRW.opE0 rfl (runs_store1P ti3 rfl rfl hst (k := 0) rfl rfl (NoFz.zero _) rfl) ?_
      rintro w hstn; clear hst; have hst := hstn; clear hstn; try simp only [List.set_cons_zero, List.set_cons_succ] at hst
      refine ⟨trivial, ?_⟩; refine DRW.q rfl rfl (fun w' hF => runs_nilCheck rfl) ?_
      refine DRW.q rfl rfl (fun w' hF => runs_fieldAddr0 rfl Try.underlying141 rfl ti4 (by decide)) ?_
      refine DRW.opE0 rfl (runs_store1P ti4 rfl rfl hst (k := 0) rfl rfl (NoFz.zero _) rfl) ?_
      rintro w hstn; clear hst; have hst := hstn; clear hstn; try simp only [List.set_cons_zero, List.set_cons_succ] at hst
      refine ⟨trivial, ?_⟩; refine DRW.done ?_; refine AQ.next ?_; refine CW.seq ?_; refine CW.region ?_; refine RW.op1 rfl (runs_move rfl) ?_; refine RW.op1 rfl (runs_assign rfl) ?_; refine RW.done ?_; refine AQ.next ?_; refine CW.ret ?_; refine AQ.ret1 rfl rfl ?_; refine ⟨_, rfl, ?_, hst⟩; subst hb28
      rfl
    · have hb28p := hb28; try simp only [decide_eq_true_eq, decide_eq_false_iff_not] at hb28p
      refine DRW.q_on rfl rfl rfl rfl hb28 rfl (fun w' hF => runs_move rfl) ?_; refine DRW.q_on rfl rfl rfl rfl hb28 rfl (fun w' hF => runs_not rfl) ?_; refine DRW.q rfl rfl (fun w' hF => runs_pick_false rfl hb28 rfl) ?_; refine DRW.q rfl rfl (fun w' hF => runs_nilCheck rfl) ?_
      refine DRW.q rfl rfl (fun w' hF => runs_fieldAddr0 rfl Try.underlying141 rfl ti3 (by decide)) ?_
      refine DRW.opE0 rfl (runs_store1P ti3 rfl rfl hst (k := 0) rfl rfl (NoFz.zero _) rfl) ?_
      rintro w hstn; clear hst; have hst := hstn; clear hstn; try simp only [List.set_cons_zero, List.set_cons_succ] at hst
      refine ⟨trivial, ?_⟩; refine DRW.q rfl rfl (fun w' hF => runs_nilCheck rfl) ?_
      refine DRW.q rfl rfl (fun w' hF => runs_fieldAddr0 rfl Try.underlying141 rfl ti4 (by decide)) ?_
      refine DRW.opE0 rfl (runs_store1P ti4 rfl rfl hst (k := 0) rfl rfl (NoFz.zero _) rfl) ?_
      rintro w hstn; clear hst; have hst := hstn; clear hstn; try simp only [List.set_cons_zero, List.set_cons_succ] at hst
      refine ⟨trivial, ?_⟩; refine DRW.done ?_; refine AQ.next ?_; refine CW.seq ?_; refine CW.region ?_; refine RW.op1 rfl (runs_move rfl) ?_; refine RW.op1 rfl (runs_assign rfl) ?_; refine RW.done ?_; refine AQ.next ?_; refine CW.ret ?_; refine AQ.ret1 rfl rfl ?_; refine ⟨_, rfl, ?_, hst⟩; subst hb28
      rfl
  refine DRW.op1 rfl rfl (runs_load1 sc4 rfl (hst.cell_own (k := 0) rfl rfl)) trivial ?_
  refine DRW.q rfl rfl (fun w' hF => runs_move rfl) ?_; refine DRW.split (t := 28) rfl (fun hb28 => ?_) (fun hb28 => ?_)
  · have hb28p := hb28; try simp only [decide_eq_true_eq, decide_eq_false_iff_not] at hb28p
    refine DRW.q_off rfl rfl rfl rfl hb28 rfl ?_; refine DRW.q_off rfl rfl rfl rfl hb28 rfl ?_; refine DRW.q rfl rfl (fun w' hF => runs_pick_true rfl hb28 rfl) ?_
    refine DRW.op1 rfl rfl (runs_load1 sc3 rfl (hst.cell_own (k := 0) rfl rfl)) trivial ?_
    refine DRW.q rfl rfl (fun w' hF => runs_add rfl rfl (by omega)) ?_; refine DRW.q rfl rfl (fun w' hF => runs_nilCheck rfl) ?_
    refine DRW.q rfl rfl (fun w' hF => runs_fieldAddr0 rfl Try.underlying141 rfl ti3 (by decide)) ?_
    refine DRW.opE0 rfl (runs_store1P ti3 rfl rfl hst (k := 0) rfl rfl (NoFz.zero _) rfl) ?_
    rintro w hstn; clear hst; have hst := hstn; clear hstn; try simp only [List.set_cons_zero, List.set_cons_succ] at hst
    refine ⟨trivial, ?_⟩; refine DRW.q rfl rfl (fun w' hF => runs_nilCheck rfl) ?_
    refine DRW.q rfl rfl (fun w' hF => runs_fieldAddr0 rfl Try.underlying141 rfl ti4 (by decide)) ?_
    refine DRW.opE0 rfl (runs_store1P ti4 rfl rfl hst (k := 0) rfl rfl (NoFz.zero _) rfl) ?_
    rintro w hstn; clear hst; have hst := hstn; clear hstn; try simp only [List.set_cons_zero, List.set_cons_succ] at hst
    refine ⟨trivial, ?_⟩; refine DRW.done ?_; refine AQ.next ?_; refine CW.seq ?_; refine CW.region ?_; refine RW.op1 rfl (runs_move rfl) ?_; refine RW.op1 rfl (runs_assign rfl) ?_; refine RW.done ?_; refine AQ.next ?_; refine CW.ret ?_; refine AQ.ret1 rfl rfl ?_; refine ⟨_, rfl, ?_, hst⟩; subst hb28
    rfl
  · have hb28p := hb28; try simp only [decide_eq_true_eq, decide_eq_false_iff_not] at hb28p
    refine DRW.q_on rfl rfl rfl rfl hb28 rfl (fun w' hF => runs_move rfl) ?_; refine DRW.q_on rfl rfl rfl rfl hb28 rfl (fun w' hF => runs_not rfl) ?_; refine DRW.q rfl rfl (fun w' hF => runs_pick_false rfl hb28 rfl) ?_
    refine DRW.op1 rfl rfl (runs_load1 sc3 rfl (hst.cell_own (k := 0) rfl rfl)) trivial ?_
    refine DRW.q rfl rfl (fun w' hF => runs_add rfl rfl (by omega)) ?_; refine DRW.q rfl rfl (fun w' hF => runs_nilCheck rfl) ?_
    refine DRW.q rfl rfl (fun w' hF => runs_fieldAddr0 rfl Try.underlying141 rfl ti3 (by decide)) ?_
    refine DRW.opE0 rfl (runs_store1P ti3 rfl rfl hst (k := 0) rfl rfl (NoFz.zero _) rfl) ?_
    rintro w hstn; clear hst; have hst := hstn; clear hstn; try simp only [List.set_cons_zero, List.set_cons_succ] at hst
    refine ⟨trivial, ?_⟩; refine DRW.q rfl rfl (fun w' hF => runs_nilCheck rfl) ?_
    refine DRW.q rfl rfl (fun w' hF => runs_fieldAddr0 rfl Try.underlying141 rfl ti4 (by decide)) ?_
    refine DRW.opE0 rfl (runs_store1P ti4 rfl rfl hst (k := 0) rfl rfl (NoFz.zero _) rfl) ?_
    rintro w hstn; clear hst; have hst := hstn; clear hstn; try simp only [List.set_cons_zero, List.set_cons_succ] at hst
    refine ⟨trivial, ?_⟩; refine DRW.done ?_; refine AQ.next ?_; refine CW.seq ?_; refine CW.region ?_; refine RW.op1 rfl (runs_move rfl) ?_; refine RW.op1 rfl (runs_assign rfl) ?_; refine RW.done ?_; refine AQ.next ?_; refine CW.ret ?_; refine AQ.ret1 rfl rfl ?_; refine ⟨_, rfl, ?_, hst⟩; subst hb28
    rfl
set_option maxRecDepth 100000 in
set_option maxHeartbeats 1000000 in
theorem rd_text_spec {w0 w : World} {I : Imm} {L : Own} {bR : Nat} {v : Value} {s : Nat} {bad : Bool} (hst : St w0 w I ((bR, Obj.cells #[v, .int .i64 ((s : Nat) : Int), .bool bad] 141) :: L)) {av : List AV} {m : Nat} {o : Bool} (hv : RdA I v av) (hgood : ∀ a ∈ av, a.good m o) (hs : s ≤ 4000000000) :
    Calls Try.prog 90 #[.pointer (some ⟨bR, 0, none⟩)] w fun e w' => ∃ bad', e = .returned (.string (txtOf (atA av (s : Int)))) ∧ bad' = (bad || !isTxt (atA av (s : Int))) ∧ St w0 w' I ((bR, Obj.cells #[v, .int .i64 ((s + 1 : Nat) : Int), .bool bad'] 141) :: L) := by
  refine enter Try.func90 rfl (N := 37) rfl rfl ?_
  simp only [List.zipIdx_cons, List.zipIdx_nil, List.map_cons, List.map_nil, Nat.zero_add, Nat.reduceAdd]
  have hle := Imm.le.refl I; refine CW.seq ?_; refine CW.region ?_; refine RW.op1 rfl (runs_assign rfl) ?_; refine RW.done ?_; refine AQ.next ?_; refine CW.seq ?_; refine CW.drawSt hst (.q 0 (.q 1 (.q 2 (.q 3 (.q 4 (.q 5 (.q 6 (.q 7 (.l 8 (.q 9 (.q 10 (.q 11 (.q 12 (.q 13 .nil)))))))))))))) follows (by kernel_rfl) (fun w hst => ?_); refine DRW.q rfl rfl (fun w' hF => runs_move rfl) ?_; refine DRW.q rfl rfl (fun w' hF => runs_nilCheck rfl) ?_
  refine DRW.q rfl rfl (fun w' hF => runs_fieldAddr0 rfl Try.underlying141 rfl ti77 (by decide)) ?_
  refine DRW.q rfl rfl (FSt.load1_own sc77 rfl (k := 0) rfl rfl) ?_
  refine DRW.q rfl rfl (fun w' hF => runs_move rfl) ?_; refine DRW.q rfl rfl (fun w' hF => runs_nilCheck rfl) ?_
  refine DRW.q rfl rfl (fun w' hF => runs_fieldAddr0 rfl Try.underlying141 rfl ti3 (by decide)) ?_
  refine DRW.q rfl rfl (FSt.load1_own sc3 rfl (k := 0) rfl rfl) ?_
  refine DRW.call rfl rfl call45 rfl rfl (text__spec hst hv hgood (s : Int)) ?_; rintro e w ⟨rfl, hstn⟩; clear hst; have hst := hstn; clear hstn; have has := as_txt (atA_good hgood (s : Int)); rw [has.1, has.2]; refine ⟨_, rfl, FSt.ofA hst (Imm.le.refl _), ?_⟩; refine DRW.q rfl rfl (fun w' hF => runs_move rfl) ?_; refine DRW.q rfl rfl (fun w' hF => runs_extract rfl rfl) ?_; refine DRW.q rfl rfl (fun w' hF => runs_extract rfl rfl) ?_; refine DRW.q rfl rfl (fun w' hF => runs_assign rfl) ?_; refine DRW.q rfl rfl (fun w' hF => runs_assign rfl) ?_; refine DRW.done ?_; refine AQ.next ?_; refine CW.seq ?_; refine CW.draw (fun _ => True) (.q 0 (.q 1 (.q 2 (.q 3 (.q 4 (.q 7 (.q 8 (.q 9 (.fork (.l 5 (.q 6 (.l 10 (.q 11 (.q 12 (.q 13 (.q 14 (.q 15 (.q 16 (.l 17 (.q 18 (.q 19 (.l 20 .nil))))))))))))) (.l 10 (.q 11 (.q 12 (.q 13 (.q 14 (.l 5 (.q 6 (.q 15 (.q 16 (.l 17 (.q 18 (.q 19 (.l 20 .nil)))))))))))))))))))))) follows (by kernel_rfl) trivial ?_; replace hst := hst.draw; refine DRW.q rfl rfl (fun w' hF => runs_move rfl) ?_; refine DRW.q rfl rfl (fun w' hF => runs_move rfl) ?_; refine DRW.q rfl rfl (fun w' hF => runs_move rfl) ?_; refine DRW.q rfl rfl (fun w' hF => runs_nilCheck rfl) ?_
  refine DRW.q rfl rfl (fun w' hF => runs_fieldAddr0 rfl Try.underlying141 rfl ti3 (by decide)) ?_
  refine DRW.q rfl rfl (fun w' hF => runs_move rfl) ?_; refine DRW.q rfl rfl (fun w' hF => runs_nilCheck rfl) ?_
  refine DRW.q rfl rfl (fun w' hF => runs_fieldAddr0 rfl Try.underlying141 rfl ti4 (by decide)) ?_
  refine DRW.fork ?_ ?_
  · refine DRW.op1 rfl rfl (runs_load1 sc3 rfl (hst.cell_own (k := 0) rfl rfl)) trivial ?_
    refine DRW.q rfl rfl (fun w' hF => runs_add rfl rfl (by omega)) ?_
    refine DRW.op1 rfl rfl (runs_load1 sc4 rfl (hst.cell_own (k := 0) rfl rfl)) trivial ?_
    refine DRW.q rfl rfl (fun w' hF => runs_move rfl) ?_; refine DRW.split (t := 28) rfl (fun hb28 => ?_) (fun hb28 => ?_)
    · have hb28p := hb28; try simp only [decide_eq_true_eq, decide_eq_false_iff_not] at hb28p
      refine DRW.q_off rfl rfl rfl rfl hb28 rfl ?_; refine DRW.q_off rfl rfl rfl rfl hb28 rfl ?_; refine DRW.q rfl rfl (fun w' hF => runs_pick_true rfl hb28 rfl) ?_; refine DRW.q rfl rfl (fun w' hF => runs_nilCheck rfl) ?_
      refine DRW.q rfl rfl (fun w' hF => runs_fieldAddr0 rfl Try.underlying141 rfl ti3 (by decide)) ?_
      refine DRW.opE0 rfl (runs_store1P ti3 rfl rfl hst (k := 0) rfl rfl (NoFz.zero _) rfl) ?_
      rintro w hstn; clear hst; have hst := hstn; clear hstn; try simp only [List.set_cons_zero, List.set_cons_succ] at hst
      refine ⟨trivial, ?_⟩; refine DRW.q rfl rfl (fun w' hF => runs_nilCheck rfl) ?_
      refine DRW.q rfl rfl (fun w' hF => runs_fieldAddr0 rfl Try.underlying141 rfl ti4 (by decide)) ?_
      refine DRW.opE0 rfl (runs_store1P ti4 rfl rfl hst (k := 0) rfl rfl (NoFz.zero _) rfl) ?_
      rintro w hstn; clear hst; have hst := hstn; clear hstn; try simp only [List.set_cons_zero, List.set_cons_succ] at hst
      refine ⟨trivial, ?_⟩; refine DRW.done ?_; refine AQ.next ?_; refine CW.seq ?_; refine CW.region ?_; refine RW.op1 rfl (runs_move rfl) ?_; refine RW.op1 rfl (runs_assign rfl) ?_; refine RW.done ?_; refine AQ.next ?_; refine CW.ret ?_; refine AQ.ret1 rfl rfl ?_; refine ⟨_, rfl, ?_, hst⟩; subst hb28
      rfl
    · have hb28p := hb28; try simp only [decide_eq_true_eq, decide_eq_false_iff_not] at hb28p
      refine DRW.q_on rfl rfl rfl rfl hb28 rfl (fun w' hF => runs_move rfl) ?_; refine DRW.q_on rfl rfl rfl rfl hb28 rfl (fun w' hF => runs_not rfl) ?_; refine DRW.q rfl rfl (fun w' hF => runs_pick_false rfl hb28 rfl) ?_; refine DRW.q rfl rfl (fun w' hF => runs_nilCheck rfl) ?_
      refine DRW.q rfl rfl (fun w' hF => runs_fieldAddr0 rfl Try.underlying141 rfl ti3 (by decide)) ?_
      refine DRW.opE0 rfl (runs_store1P ti3 rfl rfl hst (k := 0) rfl rfl (NoFz.zero _) rfl) ?_
      rintro w hstn; clear hst; have hst := hstn; clear hstn; try simp only [List.set_cons_zero, List.set_cons_succ] at hst
      refine ⟨trivial, ?_⟩; refine DRW.q rfl rfl (fun w' hF => runs_nilCheck rfl) ?_
      refine DRW.q rfl rfl (fun w' hF => runs_fieldAddr0 rfl Try.underlying141 rfl ti4 (by decide)) ?_
      refine DRW.opE0 rfl (runs_store1P ti4 rfl rfl hst (k := 0) rfl rfl (NoFz.zero _) rfl) ?_
      rintro w hstn; clear hst; have hst := hstn; clear hstn; try simp only [List.set_cons_zero, List.set_cons_succ] at hst
      refine ⟨trivial, ?_⟩; refine DRW.done ?_; refine AQ.next ?_; refine CW.seq ?_; refine CW.region ?_; refine RW.op1 rfl (runs_move rfl) ?_; refine RW.op1 rfl (runs_assign rfl) ?_; refine RW.done ?_; refine AQ.next ?_; refine CW.ret ?_; refine AQ.ret1 rfl rfl ?_; refine ⟨_, rfl, ?_, hst⟩; subst hb28
      rfl
  refine DRW.op1 rfl rfl (runs_load1 sc4 rfl (hst.cell_own (k := 0) rfl rfl)) trivial ?_
  refine DRW.q rfl rfl (fun w' hF => runs_move rfl) ?_; refine DRW.split (t := 28) rfl (fun hb28 => ?_) (fun hb28 => ?_)
  · have hb28p := hb28; try simp only [decide_eq_true_eq, decide_eq_false_iff_not] at hb28p
    refine DRW.q_off rfl rfl rfl rfl hb28 rfl ?_; refine DRW.q_off rfl rfl rfl rfl hb28 rfl ?_; refine DRW.q rfl rfl (fun w' hF => runs_pick_true rfl hb28 rfl) ?_
    refine DRW.op1 rfl rfl (runs_load1 sc3 rfl (hst.cell_own (k := 0) rfl rfl)) trivial ?_
    refine DRW.q rfl rfl (fun w' hF => runs_add rfl rfl (by omega)) ?_; refine DRW.q rfl rfl (fun w' hF => runs_nilCheck rfl) ?_
    refine DRW.q rfl rfl (fun w' hF => runs_fieldAddr0 rfl Try.underlying141 rfl ti3 (by decide)) ?_
    refine DRW.opE0 rfl (runs_store1P ti3 rfl rfl hst (k := 0) rfl rfl (NoFz.zero _) rfl) ?_
    rintro w hstn; clear hst; have hst := hstn; clear hstn; try simp only [List.set_cons_zero, List.set_cons_succ] at hst
    refine ⟨trivial, ?_⟩; refine DRW.q rfl rfl (fun w' hF => runs_nilCheck rfl) ?_
    refine DRW.q rfl rfl (fun w' hF => runs_fieldAddr0 rfl Try.underlying141 rfl ti4 (by decide)) ?_
    refine DRW.opE0 rfl (runs_store1P ti4 rfl rfl hst (k := 0) rfl rfl (NoFz.zero _) rfl) ?_
    rintro w hstn; clear hst; have hst := hstn; clear hstn; try simp only [List.set_cons_zero, List.set_cons_succ] at hst
    refine ⟨trivial, ?_⟩; refine DRW.done ?_; refine AQ.next ?_; refine CW.seq ?_; refine CW.region ?_; refine RW.op1 rfl (runs_move rfl) ?_; refine RW.op1 rfl (runs_assign rfl) ?_; refine RW.done ?_; refine AQ.next ?_; refine CW.ret ?_; refine AQ.ret1 rfl rfl ?_; refine ⟨_, rfl, ?_, hst⟩; subst hb28
    rfl
  · have hb28p := hb28; try simp only [decide_eq_true_eq, decide_eq_false_iff_not] at hb28p
    refine DRW.q_on rfl rfl rfl rfl hb28 rfl (fun w' hF => runs_move rfl) ?_; refine DRW.q_on rfl rfl rfl rfl hb28 rfl (fun w' hF => runs_not rfl) ?_; refine DRW.q rfl rfl (fun w' hF => runs_pick_false rfl hb28 rfl) ?_
    refine DRW.op1 rfl rfl (runs_load1 sc3 rfl (hst.cell_own (k := 0) rfl rfl)) trivial ?_
    refine DRW.q rfl rfl (fun w' hF => runs_add rfl rfl (by omega)) ?_; refine DRW.q rfl rfl (fun w' hF => runs_nilCheck rfl) ?_
    refine DRW.q rfl rfl (fun w' hF => runs_fieldAddr0 rfl Try.underlying141 rfl ti3 (by decide)) ?_
    refine DRW.opE0 rfl (runs_store1P ti3 rfl rfl hst (k := 0) rfl rfl (NoFz.zero _) rfl) ?_
    rintro w hstn; clear hst; have hst := hstn; clear hstn; try simp only [List.set_cons_zero, List.set_cons_succ] at hst
    refine ⟨trivial, ?_⟩; refine DRW.q rfl rfl (fun w' hF => runs_nilCheck rfl) ?_
    refine DRW.q rfl rfl (fun w' hF => runs_fieldAddr0 rfl Try.underlying141 rfl ti4 (by decide)) ?_
    refine DRW.opE0 rfl (runs_store1P ti4 rfl rfl hst (k := 0) rfl rfl (NoFz.zero _) rfl) ?_
    rintro w hstn; clear hst; have hst := hstn; clear hstn; try simp only [List.set_cons_zero, List.set_cons_succ] at hst
    refine ⟨trivial, ?_⟩; refine DRW.done ?_; refine AQ.next ?_; refine CW.seq ?_; refine CW.region ?_; refine RW.op1 rfl (runs_move rfl) ?_; refine RW.op1 rfl (runs_assign rfl) ?_; refine RW.done ?_; refine AQ.next ?_; refine CW.ret ?_; refine AQ.ret1 rfl rfl ?_; refine ⟨_, rfl, ?_, hst⟩; subst hb28
    rfl
set_option maxRecDepth 100000 in
set_option maxHeartbeats 1000000 in
theorem rd_flag_spec {w0 w : World} {I : Imm} {L : Own} {bR : Nat} {v : Value} {s : Nat} {bad : Bool} (hst : St w0 w I ((bR, Obj.cells #[v, .int .i64 ((s : Nat) : Int), .bool bad] 141) :: L)) {av : List AV} {m : Nat} {o : Bool} (hv : RdA I v av) (hgood : ∀ a ∈ av, a.good m o) (hs : s ≤ 4000000000) :
    Calls Try.prog 92 #[.pointer (some ⟨bR, 0, none⟩)] w fun e w' => ∃ bad', e = .returned (.bool (flgOf (atA av (s : Int)))) ∧ bad' = (bad || !isFlg (atA av (s : Int))) ∧ St w0 w' I ((bR, Obj.cells #[v, .int .i64 ((s + 1 : Nat) : Int), .bool bad'] 141) :: L) := by
  refine enter Try.func92 rfl (N := 37) rfl rfl ?_
  simp only [List.zipIdx_cons, List.zipIdx_nil, List.map_cons, List.map_nil, Nat.zero_add, Nat.reduceAdd]
  have hle := Imm.le.refl I; refine CW.seq ?_; refine CW.region ?_; refine RW.op1 rfl (runs_assign rfl) ?_; refine RW.done ?_; refine AQ.next ?_; refine CW.seq ?_; refine CW.drawSt hst (.q 0 (.q 1 (.q 2 (.q 3 (.q 4 (.q 5 (.q 6 (.q 7 (.l 8 (.q 9 (.q 10 (.q 11 (.q 12 (.q 13 .nil)))))))))))))) follows (by kernel_rfl) (fun w hst => ?_); refine DRW.q rfl rfl (fun w' hF => runs_move rfl) ?_; refine DRW.q rfl rfl (fun w' hF => runs_nilCheck rfl) ?_
  refine DRW.q rfl rfl (fun w' hF => runs_fieldAddr0 rfl Try.underlying141 rfl ti77 (by decide)) ?_
  refine DRW.q rfl rfl (FSt.load1_own sc77 rfl (k := 0) rfl rfl) ?_
  refine DRW.q rfl rfl (fun w' hF => runs_move rfl) ?_; refine DRW.q rfl rfl (fun w' hF => runs_nilCheck rfl) ?_
  refine DRW.q rfl rfl (fun w' hF => runs_fieldAddr0 rfl Try.underlying141 rfl ti3 (by decide)) ?_
  refine DRW.q rfl rfl (FSt.load1_own sc3 rfl (k := 0) rfl rfl) ?_
  refine DRW.call rfl rfl call99 rfl rfl (flag_spec hst hv hgood (s : Int)) ?_; rintro e w ⟨rfl, hstn⟩; clear hst; have hst := hstn; clear hstn; have has := as_flg (atA_good hgood (s : Int)); rw [has.1, has.2]; refine ⟨_, rfl, FSt.ofA hst (Imm.le.refl _), ?_⟩; refine DRW.q rfl rfl (fun w' hF => runs_move rfl) ?_; refine DRW.q rfl rfl (fun w' hF => runs_extract rfl rfl) ?_; refine DRW.q rfl rfl (fun w' hF => runs_extract rfl rfl) ?_; refine DRW.q rfl rfl (fun w' hF => runs_assign rfl) ?_; refine DRW.q rfl rfl (fun w' hF => runs_assign rfl) ?_; refine DRW.done ?_; refine AQ.next ?_; refine CW.seq ?_; refine CW.draw (fun _ => True) (.q 0 (.q 1 (.q 2 (.q 3 (.q 4 (.q 7 (.q 8 (.q 9 (.fork (.l 5 (.q 6 (.l 10 (.q 11 (.q 12 (.q 13 (.q 14 (.q 15 (.q 16 (.l 17 (.q 18 (.q 19 (.l 20 .nil))))))))))))) (.l 10 (.q 11 (.q 12 (.q 13 (.q 14 (.l 5 (.q 6 (.q 15 (.q 16 (.l 17 (.q 18 (.q 19 (.l 20 .nil)))))))))))))))))))))) follows (by kernel_rfl) trivial ?_; replace hst := hst.draw; refine DRW.q rfl rfl (fun w' hF => runs_move rfl) ?_; refine DRW.q rfl rfl (fun w' hF => runs_move rfl) ?_; refine DRW.q rfl rfl (fun w' hF => runs_move rfl) ?_; refine DRW.q rfl rfl (fun w' hF => runs_nilCheck rfl) ?_
  refine DRW.q rfl rfl (fun w' hF => runs_fieldAddr0 rfl Try.underlying141 rfl ti3 (by decide)) ?_
  refine DRW.q rfl rfl (fun w' hF => runs_move rfl) ?_; refine DRW.q rfl rfl (fun w' hF => runs_nilCheck rfl) ?_
  refine DRW.q rfl rfl (fun w' hF => runs_fieldAddr0 rfl Try.underlying141 rfl ti4 (by decide)) ?_
  refine DRW.fork ?_ ?_
  · refine DRW.op1 rfl rfl (runs_load1 sc3 rfl (hst.cell_own (k := 0) rfl rfl)) trivial ?_
    refine DRW.q rfl rfl (fun w' hF => runs_add rfl rfl (by omega)) ?_
    refine DRW.op1 rfl rfl (runs_load1 sc4 rfl (hst.cell_own (k := 0) rfl rfl)) trivial ?_
    refine DRW.q rfl rfl (fun w' hF => runs_move rfl) ?_; refine DRW.split (t := 28) rfl (fun hb28 => ?_) (fun hb28 => ?_)
    · have hb28p := hb28; try simp only [decide_eq_true_eq, decide_eq_false_iff_not] at hb28p
      refine DRW.q_off rfl rfl rfl rfl hb28 rfl ?_; refine DRW.q_off rfl rfl rfl rfl hb28 rfl ?_; refine DRW.q rfl rfl (fun w' hF => runs_pick_true rfl hb28 rfl) ?_; refine DRW.q rfl rfl (fun w' hF => runs_nilCheck rfl) ?_
      refine DRW.q rfl rfl (fun w' hF => runs_fieldAddr0 rfl Try.underlying141 rfl ti3 (by decide)) ?_
      refine DRW.opE0 rfl (runs_store1P ti3 rfl rfl hst (k := 0) rfl rfl (NoFz.zero _) rfl) ?_
      rintro w hstn; clear hst; have hst := hstn; clear hstn; try simp only [List.set_cons_zero, List.set_cons_succ] at hst
      refine ⟨trivial, ?_⟩; refine DRW.q rfl rfl (fun w' hF => runs_nilCheck rfl) ?_
      refine DRW.q rfl rfl (fun w' hF => runs_fieldAddr0 rfl Try.underlying141 rfl ti4 (by decide)) ?_
      refine DRW.opE0 rfl (runs_store1P ti4 rfl rfl hst (k := 0) rfl rfl (NoFz.zero _) rfl) ?_
      rintro w hstn; clear hst; have hst := hstn; clear hstn; try simp only [List.set_cons_zero, List.set_cons_succ] at hst
      refine ⟨trivial, ?_⟩; refine DRW.done ?_; refine AQ.next ?_; refine CW.seq ?_; refine CW.region ?_; refine RW.op1 rfl (runs_move rfl) ?_; refine RW.op1 rfl (runs_assign rfl) ?_; refine RW.done ?_; refine AQ.next ?_; refine CW.ret ?_; refine AQ.ret1 rfl rfl ?_; refine ⟨_, rfl, ?_, hst⟩; subst hb28
      rfl
    · have hb28p := hb28; try simp only [decide_eq_true_eq, decide_eq_false_iff_not] at hb28p
      refine DRW.q_on rfl rfl rfl rfl hb28 rfl (fun w' hF => runs_move rfl) ?_; refine DRW.q_on rfl rfl rfl rfl hb28 rfl (fun w' hF => runs_not rfl) ?_; refine DRW.q rfl rfl (fun w' hF => runs_pick_false rfl hb28 rfl) ?_; refine DRW.q rfl rfl (fun w' hF => runs_nilCheck rfl) ?_
      refine DRW.q rfl rfl (fun w' hF => runs_fieldAddr0 rfl Try.underlying141 rfl ti3 (by decide)) ?_
      refine DRW.opE0 rfl (runs_store1P ti3 rfl rfl hst (k := 0) rfl rfl (NoFz.zero _) rfl) ?_
      rintro w hstn; clear hst; have hst := hstn; clear hstn; try simp only [List.set_cons_zero, List.set_cons_succ] at hst
      refine ⟨trivial, ?_⟩; refine DRW.q rfl rfl (fun w' hF => runs_nilCheck rfl) ?_
      refine DRW.q rfl rfl (fun w' hF => runs_fieldAddr0 rfl Try.underlying141 rfl ti4 (by decide)) ?_
      refine DRW.opE0 rfl (runs_store1P ti4 rfl rfl hst (k := 0) rfl rfl (NoFz.zero _) rfl) ?_
      rintro w hstn; clear hst; have hst := hstn; clear hstn; try simp only [List.set_cons_zero, List.set_cons_succ] at hst
      refine ⟨trivial, ?_⟩; refine DRW.done ?_; refine AQ.next ?_; refine CW.seq ?_; refine CW.region ?_; refine RW.op1 rfl (runs_move rfl) ?_; refine RW.op1 rfl (runs_assign rfl) ?_; refine RW.done ?_; refine AQ.next ?_; refine CW.ret ?_; refine AQ.ret1 rfl rfl ?_; refine ⟨_, rfl, ?_, hst⟩; subst hb28
      rfl
  refine DRW.op1 rfl rfl (runs_load1 sc4 rfl (hst.cell_own (k := 0) rfl rfl)) trivial ?_
  refine DRW.q rfl rfl (fun w' hF => runs_move rfl) ?_; refine DRW.split (t := 28) rfl (fun hb28 => ?_) (fun hb28 => ?_)
  · have hb28p := hb28; try simp only [decide_eq_true_eq, decide_eq_false_iff_not] at hb28p
    refine DRW.q_off rfl rfl rfl rfl hb28 rfl ?_; refine DRW.q_off rfl rfl rfl rfl hb28 rfl ?_; refine DRW.q rfl rfl (fun w' hF => runs_pick_true rfl hb28 rfl) ?_
    refine DRW.op1 rfl rfl (runs_load1 sc3 rfl (hst.cell_own (k := 0) rfl rfl)) trivial ?_
    refine DRW.q rfl rfl (fun w' hF => runs_add rfl rfl (by omega)) ?_; refine DRW.q rfl rfl (fun w' hF => runs_nilCheck rfl) ?_
    refine DRW.q rfl rfl (fun w' hF => runs_fieldAddr0 rfl Try.underlying141 rfl ti3 (by decide)) ?_
    refine DRW.opE0 rfl (runs_store1P ti3 rfl rfl hst (k := 0) rfl rfl (NoFz.zero _) rfl) ?_
    rintro w hstn; clear hst; have hst := hstn; clear hstn; try simp only [List.set_cons_zero, List.set_cons_succ] at hst
    refine ⟨trivial, ?_⟩; refine DRW.q rfl rfl (fun w' hF => runs_nilCheck rfl) ?_
    refine DRW.q rfl rfl (fun w' hF => runs_fieldAddr0 rfl Try.underlying141 rfl ti4 (by decide)) ?_
    refine DRW.opE0 rfl (runs_store1P ti4 rfl rfl hst (k := 0) rfl rfl (NoFz.zero _) rfl) ?_
    rintro w hstn; clear hst; have hst := hstn; clear hstn; try simp only [List.set_cons_zero, List.set_cons_succ] at hst
    refine ⟨trivial, ?_⟩; refine DRW.done ?_; refine AQ.next ?_; refine CW.seq ?_; refine CW.region ?_; refine RW.op1 rfl (runs_move rfl) ?_; refine RW.op1 rfl (runs_assign rfl) ?_; refine RW.done ?_; refine AQ.next ?_; refine CW.ret ?_; refine AQ.ret1 rfl rfl ?_; refine ⟨_, rfl, ?_, hst⟩; subst hb28
    rfl
  · have hb28p := hb28; try simp only [decide_eq_true_eq, decide_eq_false_iff_not] at hb28p
    refine DRW.q_on rfl rfl rfl rfl hb28 rfl (fun w' hF => runs_move rfl) ?_; refine DRW.q_on rfl rfl rfl rfl hb28 rfl (fun w' hF => runs_not rfl) ?_; refine DRW.q rfl rfl (fun w' hF => runs_pick_false rfl hb28 rfl) ?_
    refine DRW.op1 rfl rfl (runs_load1 sc3 rfl (hst.cell_own (k := 0) rfl rfl)) trivial ?_
    refine DRW.q rfl rfl (fun w' hF => runs_add rfl rfl (by omega)) ?_; refine DRW.q rfl rfl (fun w' hF => runs_nilCheck rfl) ?_
    refine DRW.q rfl rfl (fun w' hF => runs_fieldAddr0 rfl Try.underlying141 rfl ti3 (by decide)) ?_
    refine DRW.opE0 rfl (runs_store1P ti3 rfl rfl hst (k := 0) rfl rfl (NoFz.zero _) rfl) ?_
    rintro w hstn; clear hst; have hst := hstn; clear hstn; try simp only [List.set_cons_zero, List.set_cons_succ] at hst
    refine ⟨trivial, ?_⟩; refine DRW.q rfl rfl (fun w' hF => runs_nilCheck rfl) ?_
    refine DRW.q rfl rfl (fun w' hF => runs_fieldAddr0 rfl Try.underlying141 rfl ti4 (by decide)) ?_
    refine DRW.opE0 rfl (runs_store1P ti4 rfl rfl hst (k := 0) rfl rfl (NoFz.zero _) rfl) ?_
    rintro w hstn; clear hst; have hst := hstn; clear hstn; try simp only [List.set_cons_zero, List.set_cons_succ] at hst
    refine ⟨trivial, ?_⟩; refine DRW.done ?_; refine AQ.next ?_; refine CW.seq ?_; refine CW.region ?_; refine RW.op1 rfl (runs_move rfl) ?_; refine RW.op1 rfl (runs_assign rfl) ?_; refine RW.done ?_; refine AQ.next ?_; refine CW.ret ?_; refine AQ.ret1 rfl rfl ?_; refine ⟨_, rfl, ?_, hst⟩; subst hb28
    rfl
set_option maxRecDepth 100000 in
set_option maxHeartbeats 1000000 in
theorem rd_heads_spec {w0 w : World} {I : Imm} {L : Own} {bR : Nat} {v : Value} {s : Nat} {bad : Bool} (hst : St w0 w I ((bR, Obj.cells #[v, .int .i64 ((s : Nat) : Int), .bool bad] 141) :: L)) {av : List AV} {m : Nat} {o : Bool} (hv : RdA I v av) (hgood : ∀ a ∈ av, a.good m o) (n : Int) (hn : i64ok n) (hsb : bad = false → s ≤ av.length) (hs9 : s ≤ av.length + 9) (hlen : av.length ≤ 100000000) :
    Calls Try.prog 91 #[.pointer (some ⟨bR, 0, none⟩), .int .i64 n] w fun e w' => ∃ I' vh, I.le I' ∧ e = .returned vh ∧ RdH I' vh (rdH av n.toNat (s, bad)).1 ∧ St w0 w' I' ((bR, Obj.cells #[v, .int .i64 (((rdH av n.toNat (s, bad)).2.1 : Nat) : Int), .bool (rdH av n.toNat (s, bad)).2.2] 141) :: L) := by
  unfold i64ok at hn; obtain ⟨nn, hnn⟩ : ∃ k, n.toNat = k := ⟨_, rfl⟩; rw [hnn]; refine enter Try.func91 rfl (N := 31) rfl rfl ?_
  simp only [List.zipIdx_cons, List.zipIdx_nil, List.map_cons, List.map_nil, Nat.zero_add, Nat.reduceAdd]
  have hle := Imm.le.refl I; refine CW.seq ?_; refine CW.region ?_; refine RW.op1 rfl (runs_assign rfl) ?_; refine RW.done ?_; refine AQ.next ?_; refine CW.seq ?_; refine CW.region ?_; refine RW.op1 rfl (runs_assign rfl) ?_; refine RW.done ?_; refine AQ.next ?_; refine CW.seq ?_; refine CW.seq ?_; refine CW.region ?_; refine RW.op1 rfl (runs_assign rfl) ?_; refine RW.done ?_; refine AQ.next ?_; refine CW.block ?_; refine CW.loop (Nat × Imm × Value × Own × List HRow × Nat × Bool) (fun x w => I.le x.2.1 ∧ RdA x.2.1 v av ∧ St w0 w x.2.1 ((bR, Obj.cells #[v, .int .i64 ((x.2.2.2.2.2.1 : Nat) : Int), .bool x.2.2.2.2.2.2] 141) :: (x.2.2.2.1 ++ L)) ∧ Grow 31 2 x.2.2.1 (x.2.2.2.2.1).length ((x.2.2.2.2.1).flatMap hrow) x.2.2.2.1 ∧ (rdH av nn (s, bad)).1 = x.2.2.2.2.1 ++ (rdH av (nn - x.1) (x.2.2.2.2.2.1, x.2.2.2.2.2.2)).1 ∧ (rdH av nn (s, bad)).2 = (rdH av (nn - x.1) (x.2.2.2.2.2.1, x.2.2.2.2.2.2)).2 ∧ (x.2.2.2.2.2.2 = false → x.2.2.2.2.2.1 ≤ av.length) ∧ x.2.2.2.2.2.1 ≤ av.length + 9 ∧ x.2.2.2.2.1.length ≤ x.2.2.2.2.2.1 ∧ x.1 ≤ nn) (fun x => [(0, .pointer (some ⟨bR, 0, none⟩)), (1, .int .i64 n), (5, x.2.2.1), (6, .int .i64 (x.1 : Int))]) (fun x => nn - x.1) ⟨(0, _, _, [], [], s, bad), ⟨hle, hv, hst, Grow.nil _ _, rfl, rfl, hsb, by dsimp only; omega, Nat.zero_le _, Nat.zero_le _⟩, ⟨rfl, rfl, rfl, rfl, trivial⟩⟩ ?_; clear hle hv hst hsb; rintro ⟨i, J, vo, Lo, acc, s1, bad1⟩ w ⟨hle, hv, hst, hg, he1, he2, hsb, hs1, ha1, hi⟩; dsimp only at hle hv hst hg he1 he2 hsb hs1 ha1 hi ⊢
  refine CW.seq ?_; refine CW.seq ?_; refine CW.cut Unit (fun _ w => St w0 w J ((bR, Obj.cells #[v, .int .i64 ((s1 : Nat) : Int), .bool bad1] 141) :: (Lo ++ L))) (fun _ => [(0, .pointer (some ⟨bR, 0, none⟩)), (1, .int .i64 n), (5, vo), (6, .int .i64 (i : Int)), (17, .bool (decide (i < nn ∧ bad1 = false)))]) ?_ ?_
  ·
    refine CW.region ?_; refine RW.op1 rfl (runs_move rfl) ?_; refine RW.op1 rfl (runs_move rfl) ?_; refine RW.op1 rfl (runs_lss rfl rfl) ?_; refine RW.op1 rfl (runs_move rfl) ?_; refine RW.split (t := 11) rfl (fun hb11 => ?_) (fun hb11 => ?_)
    · have hb11p := hb11; try simp only [decide_eq_true_eq, decide_eq_false_iff_not] at hb11p
      refine RW.on_guard rfl rfl rfl rfl hb11 ?_; refine RW.op1 rfl (runs_move rfl) ?_; refine RW.on_guard rfl rfl rfl rfl hb11 ?_; refine RW.op1 rfl (runs_nilCheck rfl) ?_; refine RW.on_guard rfl rfl rfl rfl hb11 ?_
      refine RW.op1 rfl (runs_fieldAddr0 rfl Try.underlying141 rfl ti4 (by decide)) ?_
      refine RW.on_guard rfl rfl rfl rfl hb11 ?_
      refine RW.op1 rfl (runs_load1 sc4 rfl (hst.cell_own (k := 0) rfl rfl)) ?_
      refine RW.on_guard rfl rfl rfl rfl hb11 ?_; refine RW.op1 rfl (runs_not rfl) ?_; refine RW.op1 rfl (runs_pick_true rfl hb11 rfl) ?_; refine RW.done ?_; exact AQ.meet () hst ⟨rfl, rfl, rfl, rfl, boolN (by cases bad1 <;> simp <;> omega), trivial⟩
    · have hb11p := hb11; try simp only [decide_eq_true_eq, decide_eq_false_iff_not] at hb11p
      refine RW.off_guard rfl rfl rfl rfl hb11 ?_; refine RW.off_guard rfl rfl rfl rfl hb11 ?_; refine RW.off_guard rfl rfl rfl rfl hb11 ?_; refine RW.off_guard rfl rfl rfl rfl hb11 ?_; refine RW.off_guard rfl rfl rfl rfl hb11 ?_; refine RW.op1 rfl (runs_pick_false rfl hb11 rfl) ?_; refine RW.done ?_; exact AQ.meet () hst ⟨rfl, rfl, rfl, rfl, boolN (by cases bad1 <;> simp <;> omega), trivial⟩
  · rintro _ w hstn; clear hst; have hst := hstn; clear hstn; refine AQ.next ?_; refine CW.cond rfl (fun hc17 => ?_) (fun hc17 => ?_)
    · have hcb17 := hc17; try simp only [decide_eq_true_eq, decide_eq_false_iff_not] at hc17
      have h17 : i < nn ∧ bad1 = false := of_decide_eq_true hcb17; have hsl := hsb h17.2; refine CW.skip ?_; refine AQ.next ?_; refine CW.seq ?_; refine CW.block ?_; refine CW.seq ?_; refine CW.region ?_; refine RW.op1 rfl (runs_move rfl) ?_; refine RW.call rfl call90 rfl rfl (rd_text_spec hst hv hgood (by omega)) ?_; rintro e w ⟨bad2, rfl, hb2, hstn⟩; clear hst; have hst := hstn; clear hstn; refine ⟨_, rfl, ?_⟩; refine RW.op1 rfl (runs_buildF (cells := [_, _]) bz31 rfl rfl rfl rfl rfl) ?_; refine RW.opE rfl (runs_alloc ti31 hst) ?_; rintro _ w ⟨b2, rfl, hstn⟩; clear hst; have hst := hstn; clear hstn
      refine RW.opE0 (runs_storeW ti31 rfl rfl hst (k := 0) rfl rfl rfl (NoFz.zero _) rfl) ?_
      rintro w hstn; clear hst; have hst := hstn; clear hstn; try simp only [List.set_cons_zero, List.set_cons_succ] at hst
      refine RW.done ?_; refine AQ.next ?_; refine CW.seq ?_; refine CW.region ?_; refine RW.op1 rfl (runs_move rfl) ?_; replace hst := hst.perm (List.Perm.swap _ _ _); refine RW.call rfl call90 rfl rfl (rd_text_spec hst hv hgood (by omega)) ?_; rintro e w ⟨bad3, rfl, hb3, hstn⟩; clear hst; have hst := hstn; clear hstn; replace hst := hst.perm (List.Perm.swap _ _ _); refine ⟨_, rfl, ?_⟩
      refine RW.op1 rfl (runs_fieldAddr0 rfl Try.underlying31 rfl ti9 (by decide)) ?_
      refine RW.opE0 (runs_store1P ti9 rfl rfl hst (k := 0) rfl rfl (NoFz.zero _) rfl) ?_
      rintro w hstn; clear hst; have hst := hstn; clear hstn; try simp only [List.set_cons_zero, List.set_cons_succ] at hst
      refine RW.done ?_; refine AQ.next ?_; refine CW.region ?_; refine RW.op1 rfl (runs_move rfl) ?_
      refine RW.op1 rfl (runs_loadN (vs := [_, _]) ag31 ti31 rfl hst (k := 0) rfl rfl rfl) ?_
      refine RW.opE rfl (runs_litF (xs := [.agg #[_, _]]) Try.underlying32 ti31 (by decide) rfl rfl rfl rfl rfl hst (by decide)) ?_; rintro u5 w ⟨Lv5, hstn, hg5⟩; clear hst; have hst := hstn; clear hstn; obtain ⟨J5, hJ5, hstn, h5⟩ := Grow.freeze hg5 hst; clear hst; have hst := hstn; clear hstn; replace hv := hv.mono hJ5; replace hle := hle.trans hJ5; try simp only [List.nil_append] at h5
      replace h5 : RdL J5 2 u5 1 (hrow (txtOf (atA av (s1 : Int)), txtOf (atA av ((s1 + 1 : Nat) : Int)))) := h5; have hT := h5; refine RW.opE rfl (runs_appendRA [_, _] Try.underlying32 ti31 rfl (by decide) rfl rfl hst hg hT (by omega) (by unfold maxLen; omega)) ?_; rintro uN w ⟨LvN, hstn, hgN⟩; clear hst; have hst := hstn; clear hstn; refine RW.op1 rfl (runs_assign rfl) ?_; refine RW.done ?_; refine AQ.block_normal ?_; refine AQ.next ?_; refine CW.region ?_; refine RW.op1 rfl (runs_move rfl) ?_; refine RW.op1 rfl (runs_add rfl rfl (by omega)) ?_; refine RW.op1 rfl (runs_assign rfl) ?_; refine RW.done ?_; obtain ⟨q, hq⟩ : ∃ q, nn - i = q + 1 := ⟨nn - i - 1, by omega⟩
      have hq2 : nn - (i + 1) = q := by omega
      have hb3' : bad3 = (!(isTxt (atA av (s1 : Int))) || !(isTxt (atA av ((s1 + 1 : Nat) : Int)))) := by rw [hb3, hb2, h17.2, Bool.false_or]
      rw [hq, rdH, if_neg (by rw [h17.2]; exact Bool.false_ne_true)] at he1 he2; dsimp only at he1 he2; rw [← hb3'] at he1 he2; refine AQ.again (x := (i, J, vo, Lo, acc, s1, bad1)) (i + 1, _, uN, LvN, acc ++ [(txtOf (atA av (s1 : Int)), txtOf (atA av ((s1 + 1 : Nat) : Int)))], s1 + 2, bad3) ⟨hle, hv, hst.drop1, ?_, ?_, ?_, ?_, by dsimp only; omega, by dsimp only; rw [List.length_append, List.length_singleton]; omega, by dsimp only; omega⟩ ⟨rfl, rfl, rfl, rfl, trivial⟩ (by dsimp only; omega)
      · dsimp only; rw [List.length_append, List.flatMap_append]; exact hgN
      · dsimp only; rw [hq2, he1, List.append_assoc]
        rfl
      · dsimp only; rw [hq2, he2]
      · intro h0; dsimp only at h0 ⊢; rw [hb3', Bool.or_eq_false_iff, Bool.not_eq_false', Bool.not_eq_false'] at h0; have := is_in (.inr (.inl h0.2)); omega
    · have hcb17 := hc17; try simp only [decide_eq_true_eq, decide_eq_false_iff_not] at hc17
      have h17 : ¬ (i < nn ∧ bad1 = false) := of_decide_eq_false hcb17; refine CW.exit ?_; refine AQ.past_exit ?_; refine AQ.past_exit ?_; refine AQ.block_hit ?_; refine AQ.next ?_; refine CW.seq ?_; refine CW.region ?_; refine RW.op1 rfl (runs_move rfl) ?_; refine RW.op1 rfl (runs_assign rfl) ?_; refine RW.done ?_; refine AQ.next ?_; refine CW.ret ?_; refine AQ.ret1 rfl rfl ?_; obtain ⟨J', hJ', hst', hr⟩ := hg.freeze (hst.perm (List.perm_middle (l₁ := Lo)).symm)
      have hfin : rdH av (nn - i) (s1, bad1) = ([], (s1, bad1)) := by
        rcases Nat.lt_or_ge i nn with h | h
        · exact rdH_bad av _ _ (by
            cases hb : bad1 with
            | true => rfl
            | false => exact absurd ⟨h, hb⟩ h17)
        · rw [show nn - i = 0 by omega]; rfl
      rw [hfin] at he1 he2; dsimp only at he1 he2; rw [List.append_nil] at he1; refine ⟨J', _, hle.trans hJ', rfl, ?_, ?_⟩
      · rw [he1]; exact hr
      · rw [he2]; exact hst'
end Go.Proofs.YtadgbifmiooikaaX
