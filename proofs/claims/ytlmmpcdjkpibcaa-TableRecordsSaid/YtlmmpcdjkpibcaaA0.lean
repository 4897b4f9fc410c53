/- Plain: values av bytes. No program in sight. -/
import Derived.Test.YtlmmpcdjkpibcaaXB
import Derived.Test.YtlmmpcdjkpibcaaM0
namespace Go.Proofs.YtlmmpcdjkpibcaaX
set_option linter.unusedVariables false
open Go
/-- A value: a number, a text, a flag, or another thing. -/
inductive AV where
  | num (n : Int)
  | txt (b : ByteArray)
  | flg (t : Bool)
  | oth (v : Value)
def AV.v : AV → Value
  | .num n => .iface 3 (.int .i64 n)
  | .txt b => .iface 9 (.string b)
  | .flg t => .iface 4 (.bool t)
  | .oth v => v
/-- Another thing is none of the three. -/
def otherV : Value → Bool
  | .nilIface => true
  | .iface t _ => t != 3 && t != 9 && t != 4
  | _ => false
/-- What may be among values: texts of m bytes at most; other things if o. -/
def AV.good (m : Nat) (o : Bool) : AV → Prop
  | .num n => i64ok n
  | .txt b => b.size ≤ m
  | .flg _ => True
  | .oth v => o = true ∧ otherV v = true
theorem AV.isI {m : Nat} {o : Bool} {a : AV} (h : a.good m o) : isIface a.v = true := by
  cases a with
  | oth v =>
    have := h.2
    cases v <;> simp [otherV] at this <;> rfl
  | _ => rfl
theorem AV.one {m : Nat} {o : Bool} {a : AV} (h : a.good m o) : a.v.oneCell' = true := by
  cases a with
  | oth v =>
    have := h.2
    cases v <;> simp [otherV] at this <;> rfl
  | _ => rfl
theorem AV.asB_num {m : Nat} {o : Bool} {a : AV} (h : a.good m o) (hb : asB 3 a.v = true) : ∃ n, a = .num n := by
  cases a with
  | num n => exact ⟨n, rfl⟩
  | txt b => exact absurd hb (by simp [AV.v, asB])
  | flg t => exact absurd hb (by simp [AV.v, asB])
  | oth v =>
    have h2 := h.2
    cases v <;> simp [otherV, asB, AV.v] at h2 hb
    exact absurd hb h2.1.1
theorem AV.asB_txt {m : Nat} {o : Bool} {a : AV} (h : a.good m o) (hb : asB 9 a.v = true) : ∃ b, a = .txt b := by
  cases a with
  | num n => exact absurd hb (by simp [AV.v, asB])
  | txt b => exact ⟨b, rfl⟩
  | flg t => exact absurd hb (by simp [AV.v, asB])
  | oth v =>
    have h2 := h.2
    cases v <;> simp [otherV, asB, AV.v] at h2 hb
    exact absurd hb h2.1.2
theorem AV.asB_flg {m : Nat} {o : Bool} {a : AV} (h : a.good m o) (hb : asB 4 a.v = true) : ∃ b, a = .flg b := by
  cases a with
  | num n => exact absurd hb (by simp [AV.v, asB])
  | txt b => exact absurd hb (by simp [AV.v, asB])
  | flg t => exact ⟨t, rfl⟩
  | oth v =>
    have h2 := h.2
    cases v <;> simp [otherV, asB, AV.v] at h2 hb
    exact absurd hb h2.2
theorem AV.asB_oth {a : AV} (h1 : asB 3 a.v = false) (h2 : asB 9 a.v = false) (h3 : asB 4 a.v = false) : ∃ v, a = .oth v := by
  cases a with
  | num n => exact absurd h1 (by simp [AV.v, asB])
  | txt b => exact absurd h2 (by simp [AV.v, asB])
  | flg t => exact absurd h3 (by simp [AV.v, asB])
  | oth v => exact ⟨v, rfl⟩
def be8 (n : Int) : List UInt8 := (List.range 8).map fun j => u8 ((IntKind.u64.wrap n).fdiv (2 ^ (8 * (7 - j))))
theorem be8_take (n : Int) {j : Nat} (h : j < 8) : (be8 n).take (j + 1) = (be8 n).take j ++ [u8 ((IntKind.u64.wrap n).fdiv (2 ^ (8 * (7 - j))))] := take_map_range _ 8 j h
theorem be8_length (n : Int) : (be8 n).length = 8 := by simp [be8]
def enc1 : AV → List UInt8
  | .num n => 105 :: be8 n
  | .txt b => 115 :: u8 b.size :: b.toList
  | .flg t => [if t then 116 else 102]
  | .oth _ => []
def enc1Ok : AV → Bool
  | .txt b => decide (b.size ≤ 255)
  | .oth _ => false
  | _ => true
def encA (av : List AV) : List UInt8 := av.flatMap enc1
def encOk (av : List AV) : Bool := av.all enc1Ok
abbrev RdA (I : Imm) (v : Value) (av : List AV) : Prop := RdL I 1 v av.length (av.map AV.v)
abbrev GrowA (v : Value) (av : List AV) (Lv : Own) : Prop := Grow 20 1 v av.length (av.map AV.v) Lv
theorem RdA.at {I : Imm} {v : Value} {av : List AV} {i : Int} (h : RdA I v av) (h0 : 0 ≤ i) (h1 : i < av.length) : I.cell? (slPtr v (i.toNat * 1)) = some (av[i.toNat]'(by omega)).v := by
  refine RdL.cell h ?_
  have : i.toNat < av.length := by omega
  simp [this]
theorem encOk_take {av : List AV} {k : Nat} (hk : k < av.length) (h : encOk (av.take k) = true) (h1 : enc1Ok av[k] = true) : encOk (av.take (k + 1)) = true := by
  unfold encOk at *
  rw [List.take_add_one, List.all_append, h, List.getElem?_eq_getElem hk]
  simp [h1]
theorem encOk_no {av : List AV} {k : Nat} (hk : k < av.length) (h1 : enc1Ok av[k] = false) : encOk av = false := by
  unfold encOk
  rw [List.all_eq_false]
  exact ⟨av[k], List.getElem_mem _, by simp [h1]⟩
theorem encA_take {av : List AV} {k : Nat} (hk : k < av.length) : encA (av.take (k + 1)) = encA (av.take k) ++ enc1 av[k] := by
  unfold encA
  rw [List.take_add_one, List.flatMap_append, List.getElem?_eq_getElem hk]
  simp
theorem enc1_le {a : AV} (h : enc1Ok a = true) : (enc1 a).length ≤ 257 := by
  cases a with
  | num n => simp [enc1, be8_length]
  | txt b =>
    have hb : b.toList.length = b.size := by rw [ByteArray.toList_eq]; rfl
    simp only [enc1Ok, decide_eq_true_eq] at h
    simp [enc1, hb]; omega
  | flg t => simp [enc1]
  | oth v => simp [enc1]
theorem encA_le : ∀ {av : List AV}, encOk av = true → (encA av).length ≤ av.length * 257
  | [], _ => by simp [encA]
  | a :: r, h => by
    have h1 : enc1Ok a = true ∧ encOk r = true := by simpa [encOk] using h
    have := enc1_le h1.1
    have := encA_le h1.2
    simp only [encA, List.flatMap_cons, List.length_append, List.length_cons, Nat.add_mul, Nat.one_mul] at *
    omega
theorem GrowA.push {v : Value} {av : List AV} {a : AV} {Lv : Own} (h : Grow 20 1 v (av.length + 1) (av.map AV.v ++ [a.v]) Lv) : GrowA v (av ++ [a]) Lv := by
  unfold GrowA
  rw [List.length_append, List.map_append]
  exact h
theorem good_push {m : Nat} {o : Bool} {av : List AV} {a : AV} (h : ∀ x ∈ av, x.good m o) (ha : a.good m o) : ∀ x ∈ av ++ [a], x.good m o := fun x hx => by
  rcases List.mem_append.1 hx with hx | hx
  · exact h x hx
  · rw [List.mem_singleton.1 hx]; exact ha
theorem iat_ok {xs : List Int} {i : Int} (h : ∀ n ∈ xs, i64ok n) (h0 : 0 ≤ i) (h1 : i < xs.length) : i64ok (iat xs i) := by
  unfold iat
  have : i.toNat < xs.length := by omega
  rw [List.getD_eq_getElem?_getD, List.getElem?_eq_getElem this]
  exact h _ (List.getElem_mem _)
theorem strOf_size (bs : List UInt8) : (strOf bs).size = bs.length := by
  have := size_toList (strOf bs)
  rw [strOf_toList] at this
  exact this.symm
/-! ### Equal values -/
def AV.eqb : AV → AV → Bool
  | .num a, .num b => a == b
  | .txt a, .txt b => a.toList == b.toList
  | .flg a, .flg b => a == b
  | _, _ => false
theorem toList_inj {a b : ByteArray} (h : a.toList = b.toList) : a = b := by
  rw [ByteArray.toList_eq, ByteArray.toList_eq] at h
  cases a; cases b
  congr 1
  exact Array.toList_inj.1 h
theorem AV.eqb_iff {m : Nat} {a b : AV} (ha : a.good m false) (hb : b.good m false) : a.eqb b = true ↔ a = b := by
  cases a <;> cases b <;> simp [AV.eqb, AV.good] at *
  exact ⟨toList_inj, fun h => by rw [h]⟩
theorem good_encOk {m : Nat} {av : List AV} (h : ∀ a ∈ av, a.good m false) (hm : m ≤ 255) : encOk av = true := by
  unfold encOk
  rw [List.all_eq_true]
  intro a ha
  have := h a ha
  cases a <;> simp [enc1Ok, AV.good] at *
  omega
theorem encA_append (a b : List AV) : encA (a ++ b) = encA a ++ encA b := by unfold encA; rw [List.flatMap_append]
/-- Numbers, byte by byte: each number has its own bytes. -/
theorem be8_inj {a b : Int} (ha : i64ok a) (hb : i64ok b) (h : be8 a = be8 b) : a = b := by
  unfold i64ok at ha hb
  unfold be8 at h
  simp only [List.range_succ, List.range_zero, List.nil_append, List.map_cons, List.map_nil, List.cons_append, List.cons.injEq, and_true] at h
  obtain ⟨h0, h1, h2, h3, h4, h5, h6, h7⟩ := h
  have k0 := congrArg (fun c : UInt8 => (c.toNat : Int)) h0
  have k1 := congrArg (fun c : UInt8 => (c.toNat : Int)) h1
  have k2 := congrArg (fun c : UInt8 => (c.toNat : Int)) h2
  have k3 := congrArg (fun c : UInt8 => (c.toNat : Int)) h3
  have k4 := congrArg (fun c : UInt8 => (c.toNat : Int)) h4
  have k5 := congrArg (fun c : UInt8 => (c.toNat : Int)) h5
  have k6 := congrArg (fun c : UInt8 => (c.toNat : Int)) h6
  have k7 := congrArg (fun c : UInt8 => (c.toNat : Int)) h7
  have fd : ∀ (x : Int) (n : Nat), x.fdiv (2 ^ n) = x / 2 ^ n := fun x n => Int.fdiv_eq_ediv_of_nonneg _ (Int.pow_nonneg (by decide))
  simp only [u8_toNat, fd, IntKind.wrap_u64] at k0 k1 k2 k3 k4 k5 k6 k7
  simp only [Nat.reduceSub, Nat.reduceMul, Int.reducePow] at k0 k1 k2 k3 k4 k5 k6 k7
  omega
theorem enc1_cons {m : Nat} (hm : m ≤ 255) {a b : AV} (ha : a.good m false) (hb : b.good m false) {x y : List UInt8} (h : enc1 a ++ x = enc1 b ++ y) : a = b ∧ x = y := by
  cases a with
  | num n =>
    cases b with
    | num k =>
      simp only [enc1, List.cons_append, List.cons.injEq, true_and] at h
      obtain ⟨h1, h2⟩ := List.append_inj h (by rw [be8_length, be8_length])
      exact ⟨by rw [be8_inj ha hb h1], h2⟩
    | txt s => simp [enc1] at h
    | flg t => cases t <;> simp [enc1] at h
    | oth v => exact absurd hb.1 (by decide)
  | txt s =>
    cases b with
    | num k => simp [enc1] at h
    | txt s' =>
      simp only [enc1, List.cons_append, List.cons.injEq, true_and] at h
      have h1 := congrArg (fun c : UInt8 => (c.toNat : Int)) h.1
      simp only [u8_toNat] at h1
      have g1 : s.size ≤ m := ha
      have g2 : s'.size ≤ m := hb
      obtain ⟨h2, h3⟩ := List.append_inj h.2 (by rw [size_toList, size_toList]; omega)
      exact ⟨by rw [toList_inj h2], h3⟩
    | flg t => cases t <;> simp [enc1] at h
    | oth v => exact absurd hb.1 (by decide)
  | flg t =>
    cases b with
    | num k => cases t <;> simp [enc1] at h
    | txt s' => cases t <;> simp [enc1] at h
    | flg t' =>
      simp only [enc1, List.cons_append, List.nil_append, List.cons.injEq] at h
      refine ⟨?_, h.2⟩
      cases t <;> cases t' <;> simp at h ⊢
    | oth v => exact absurd hb.1 (by decide)
  | oth v => exact absurd ha.1 (by decide)
theorem enc1_ne {m : Nat} {a : AV} (ha : a.good m false) : enc1 a ≠ [] := by
  cases a with
  | oth v => exact absurd ha.1 (by decide)
  | _ => simp [enc1]
/-- Unlike values have unlike bytes. -/
theorem encA_inj {m : Nat} (hm : m ≤ 255) : ∀ {a b : List AV}, (∀ x ∈ a, x.good m false) → (∀ x ∈ b, x.good m false) → encA a = encA b → a = b
  | [], [], _, _, _ => rfl
  | [], y :: b, _, hb, h => by
    have := enc1_ne (hb y (List.mem_cons_self ..))
    simp only [encA, List.flatMap_nil, List.flatMap_cons] at h
    exact absurd (List.append_eq_nil_iff.1 h.symm).1 this
  | x :: a, [], ha, _, h => by
    have := enc1_ne (ha x (List.mem_cons_self ..))
    simp only [encA, List.flatMap_nil, List.flatMap_cons] at h
    exact absurd (List.append_eq_nil_iff.1 h).1 this
  | x :: a, y :: b, ha, hb, h => by
    simp only [encA, List.flatMap_cons] at h
    obtain ⟨h1, h2⟩ := enc1_cons hm (ha x (List.mem_cons_self ..)) (hb y (List.mem_cons_self ..)) h
    rw [h1, encA_inj hm (fun z hz => ha z (List.mem_cons_of_mem _ hz)) (fun z hz => hb z (List.mem_cons_of_mem _ hz)) h2]
end Go.Proofs.YtlmmpcdjkpibcaaX
