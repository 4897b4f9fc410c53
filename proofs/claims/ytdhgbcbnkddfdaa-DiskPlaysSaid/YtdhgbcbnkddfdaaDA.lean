/- A disk played: what the maps beside it tell. Own lemmas. -/
import Derived.Test.YtdhgbcbnkddfdaaD9
import Derived.Test.YtdhgbcbnkddfdaaXJ
namespace Go.Proofs.YtdhgbcbnkddfdaaX
set_option linter.unusedVariables false
set_option linter.unusedSimpArgs false
open Go Go.RowKit Go.Proofs
variable {w0 w : World} {I J : Imm} {L : Own}

def z32 : List UInt8 := List.replicate 32 0
/-- What a map says of a sector: its bytes; none: zeros. -/
def RdM (J : Imm) (rows : List (Int × Value)) (a : Int) (bs : List UInt8) : Prop := match mget rows a with
  | some v => RdB J v bs
  | none => bs = z32
def Vals (J : Imm) (rows : List (Int × Value)) : Prop := ∀ p ∈ rows, ∃ bs, RdB J p.2 bs ∧ bs.length = 32
theorem RdM.mono {J' : Imm} {rows : List (Int × Value)} {a : Int} {bs : List UInt8} (hI : J.le J') (h : RdM J rows a bs) : RdM J' rows a bs := by
  unfold RdM at h ⊢
  split at h
  · exact RdL.mono hI h
  · exact h
theorem RdM.put {rows : List (Int × Value)} {k : Int} {v : Value} {bs : List UInt8} (hv : RdB J v bs) (a : Int) (cs : List UInt8) (h : RdM J rows a cs) : RdM J (mput rows k v) a (if a = k then bs else cs) := by
  unfold RdM
  rw [mget_put]
  by_cases e : a = k
  · rw [if_pos e, if_pos e]; exact hv
  · rw [if_neg e, if_neg e]; exact h
theorem Vals.mono {J' : Imm} {rows : List (Int × Value)} (hI : J.le J') (h : Vals J rows) : Vals J' rows := fun p hp => let ⟨bs, h1, h2⟩ := h p hp; ⟨bs, RdL.mono hI h1, h2⟩
theorem mput_mem {κ : Type} [DecidableEq κ] {rows : List (κ × Value)} {k : κ} {v : Value} {p : κ × Value} (h : p ∈ mput rows k v) : p.2 = v ∨ p ∈ rows := by
  induction rows with
  | nil => simp [mput] at h; exact .inl (by rw [h])
  | cons q r ih =>
    obtain ⟨a, u⟩ := q
    unfold mput at h
    split at h
    · rcases List.mem_cons.1 h with rfl | h
      · exact .inl rfl
      · exact .inr (List.mem_cons_of_mem _ h)
    · rcases List.mem_cons.1 h with rfl | h
      · exact .inr (List.mem_cons_self ..)
      · rcases ih h with h | h
        · exact .inl h
        · exact .inr (List.mem_cons_of_mem _ h)
theorem Vals.put {rows : List (Int × Value)} {k : Int} {v : Value} {bs : List UInt8} (hv : RdB J v bs) (hl : bs.length = 32) (h : Vals J rows) : Vals J (mput rows k v) := fun p hp => by
  rcases mput_mem hp with e | hp
  · exact ⟨bs, by rw [e]; exact hv, hl⟩
  · exact h p hp
theorem RdB.not_nil {v : Value} {bs : List UInt8} (h : RdB J v bs) (hl : 0 < bs.length) : ∃ a m c, v = .slice (some a) m c := by
  obtain ⟨_, _, A, cap, rfl, _, h4⟩ := h
  obtain ⟨a, rfl, _⟩ := h4 0 (b8 bs[0]) (by simp [hl])
  exact ⟨a, _, _, rfl⟩
/-- What is looked up: a slice, told to be there or not. -/
theorem look {rows : List (Int × Value)} (h : Vals J rows) (a : Int) : ∃ A m c, (mget rows a).getD (.slice none 0 0) = .slice A m c ∧ (A.isNone = true → mget rows a = none) ∧ (A.isNone = false → ∃ v, mget rows a = some v ∧ v = .slice A m c) := by
  cases hg : mget rows a with
  | none => exact ⟨none, 0, 0, rfl, (fun _ => rfl), (fun h => by cases h)⟩
  | some v =>
    obtain ⟨bs, hb, hl⟩ := h _ (mget_some hg)
    obtain ⟨x, m, c, rfl⟩ := hb.not_nil (by omega)
    exact ⟨some x, m, c, rfl, (fun h => by cases h), (fun _ => ⟨_, rfl, rfl⟩)⟩
theorem RdAll.mono {J' : Imm} (hI : J.le J') : ∀ {vs : List Value} {bss : List (List UInt8)}, RdAll J vs bss → RdAll J' vs bss
  | [], [], _ => trivial
  | _ :: _, _ :: _, h => ⟨RdL.mono hI h.1, RdAll.mono hI h.2⟩
  | [], _ :: _, h => h.elim
  | _ :: _, [], h => h.elim
theorem RdAll.push : ∀ {vs : List Value} {bss : List (List UInt8)} {v : Value} {b : List UInt8}, RdAll J vs bss → RdB J v b → RdAll J (vs ++ [v]) (bss ++ [b])
  | [], [], v, b, _, h => ⟨h, trivial⟩
  | _ :: _, _ :: _, v, b, hh, h => ⟨hh.1, RdAll.push hh.2 h⟩
  | [], _ :: _, _, _, h, _ => h.elim
  | _ :: _, [], _, _, h, _ => h.elim
/-- What goes round. -/
structure PS where
  S : DS
  J : Imm
  Ld : Own
  bN : Nat
  oS : Obj
  oN : Obj
  rS : List (Int × Value)
  rN : List (Int × Value)
  va : Value
  vx : Value
  La : Own
  Lx : Own
  vs : List Value
structure PGood (d : Value) (n : Nat) (vl : Value) (ls : List Int) (vk : Value) (ks : List Int) (vz : Value) (x : PS) : Prop where
  hd : DiskO d x.S x.Ld
  hn : x.S.secs.length = n
  mS : MapR kI x.oS x.rS
  mN : MapR kI x.oN x.rN
  nS : (x.rS.map Prod.fst).Nodup
  sec : ∀ a : Int, 0 ≤ a → a < n → RdM x.J x.rS a (x.S.secs.getD a.toNat [])
  now : ∀ a : Int, 0 ≤ a → a < n → RdM x.J x.rN a (readR x.S a)
  valS : Vals x.J x.rS
  valN : Vals x.J x.rN
  gA : Grow 3 1 x.va x.S.pend.length (x.S.pend.map fun p => Value.int .i64 p.1) x.La
  gX : Grow 26 1 x.vx x.S.pend.length x.vs x.Lx
  rX : RdAll x.J x.vs (x.S.pend.map (·.2))
  hl : RdI x.J vl ls
  hk : RdI x.J vk ks
  hz : RdB x.J vz z32
theorem PGood.ok {d vl vk vz : Value} {n : Nat} {ls ks : List Int} {x : PS} (h : PGood d n vl ls vk ks vz x) : DOk x.S := by obtain ⟨_, _, _, _, _, _, _, _, _, h⟩ := h.hd; exact h
theorem PGood.lift {d vl vk vz : Value} {n : Nat} {ls ks : List Int} {x : PS} {J' : Imm} (h : PGood d n vl ls vk ks vz x) (hI : x.J.le J') : PGood d n vl ls vk ks vz { x with J := J' } where
  hd := h.hd
  hn := h.hn
  mS := h.mS
  mN := h.mN
  nS := h.nS
  sec := fun a h0 h1 => (h.sec a h0 h1).mono hI
  now := fun a h0 h1 => (h.now a h0 h1).mono hI
  valS := h.valS.mono hI
  valN := h.valN.mono hI
  gA := h.gA
  gX := h.gX
  rX := h.rX.mono hI
  hl := RdL.mono hI h.hl
  hk := RdL.mono hI h.hk
  hz := RdL.mono hI h.hz
/-- The world beside. -/
def PWd (w0 w : World) (L : Own) (bS : Nat) (x : PS) : Prop := St w0 w x.J ((bS, x.oS) :: (x.bN, x.oN) :: (x.Ld ++ (x.La ++ (x.Lx ++ L))))
theorem readR_push (S : DS) (at_ : Int) (b : List UInt8) (l : Int) (a : Int) : readR { S with left := l, pend := S.pend ++ [(at_, b)] } a = if a = at_ then b else readR S a := by
  unfold readR
  rw [List.foldl_append]
  show (if at_ = a then b else _) = _
  by_cases e : a = at_
  · rw [if_pos e, if_pos e.symm]
  · rw [if_neg e, if_neg (fun h => e h.symm)]
theorem fold_getD {n : Nat} : ∀ (ps : List (Int × List UInt8)) (s : List (List UInt8)) (a : Int), 0 ≤ a → a < s.length → (∀ p ∈ ps, 0 ≤ p.1 ∧ p.1 < s.length) →
    (ps.foldl (fun s p => s.set p.1.toNat p.2) s).getD a.toNat [] = ps.foldl (fun b p => if p.1 = a then p.2 else b) (s.getD a.toNat [])
  | [], s, a, _, _, _ => rfl
  | p :: ps, s, a, h0, h1, h => by
    obtain ⟨hp0, hp1⟩ := h p (List.mem_cons_self ..)
    rw [List.foldl_cons, List.foldl_cons, fold_getD (n := n) ps _ a h0 (by rw [List.length_set]; exact h1) (fun q hq => by rw [List.length_set]; exact h q (List.mem_cons_of_mem _ hq))]
    congr 1
    have ha : a.toNat < s.length := by omega
    by_cases e : p.1 = a
    · rw [if_pos e, e, List.getD_eq_getElem?_getD, List.getElem?_set_self (by omega)]; rfl
    · rw [if_neg e, List.getD_eq_getElem?_getD, List.getElem?_set_ne (by omega), ← List.getD_eq_getElem?_getD]
theorem read_flush {S : DS} (h : DOk S) (hd : S.down = false) {a : Int} (h0 : 0 ≤ a) (h1 : a < S.secs.length) : readR (flushR S).1 a = readR S a := by
  unfold flushR
  rw [if_neg (by rw [hd]; decide)]
  unfold readR
  exact fold_getD (n := 0) S.pend S.secs a h0 h1 (fun p hp => (h.2.2.1 p hp).2)
theorem set_getD {s : List (List UInt8)} {k : Nat} {b : List UInt8} {a : Int} (h0 : 0 ≤ a) (h1 : a < s.length) : (s.set k b).getD a.toNat [] = if a = (k : Int) then b else s.getD a.toNat [] := by
  have ha : a.toNat < s.length := by omega
  by_cases e : a = (k : Int)
  · rw [if_pos e, show k = a.toNat by omega, List.getD_eq_getElem?_getD, List.getElem?_set_self ha]; rfl
  · rw [if_neg e, List.getD_eq_getElem?_getD, List.getElem?_set_ne (by omega), ← List.getD_eq_getElem?_getD]
end Go.Proofs.YtdhgbcbnkddfdaaX
