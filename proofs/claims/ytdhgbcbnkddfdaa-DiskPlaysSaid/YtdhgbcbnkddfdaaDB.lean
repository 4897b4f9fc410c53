/- A disk played: how it goes on. Own lemmas. -/
import Derived.Test.YtdhgbcbnkddfdaaDA
namespace Go.Proofs.YtdhgbcbnkddfdaaX
set_option linter.unusedVariables false
set_option linter.unusedSimpArgs false
open Go Go.RowKit Go.Proofs
variable {w0 w : World} {I J : Imm} {L : Own} {d vl vk vz : Value} {n : Nat} {ls ks : List Int} {x : PS}

theorem PGood.same (h : PGood d n vl ls vk ks vz x) {S' : DS} {Ld' : Own} (hd : DiskO d S' Ld') (h1 : S'.secs = x.S.secs) (h2 : S'.pend = x.S.pend) : PGood d n vl ls vk ks vz { x with S := S', Ld := Ld' } where
  hd := hd
  hn := by show S'.secs.length = n; rw [h1]; exact h.hn
  mS := h.mS
  mN := h.mN
  nS := h.nS
  sec := fun a h0 ha => by show RdM _ _ _ (S'.secs.getD _ _); rw [h1]; exact h.sec a h0 ha
  now := fun a h0 ha => by
    have : readR S' a = readR x.S a := by unfold readR; rw [h1, h2]
    show RdM _ _ _ (readR S' a)
    rw [this]
    exact h.now a h0 ha
  valS := h.valS
  valN := h.valN
  gA := by show Grow _ _ _ S'.pend.length (S'.pend.map _) _; rw [h2]; exact h.gA
  gX := by show Grow _ _ _ S'.pend.length _ _; rw [h2]; exact h.gX
  rX := by show RdAll _ _ (S'.pend.map _); rw [h2]; exact h.rX
  hl := h.hl
  hk := h.hk
  hz := h.hz
theorem writeR_no {S : DS} {a : Int} {b : List UInt8} (h : (writeR S a b).2 ≠ 0) : (writeR S a b).1.secs = S.secs ∧ (writeR S a b).1.pend = S.pend ∧ (writeR S a b).1.left = S.left := by
  unfold writeR at h ⊢
  (repeat' split) <;> first | exact ⟨rfl, rfl, rfl⟩ | simp_all
theorem writeR_yes {S : DS} {a : Int} {b : List UInt8} (h : (writeR S a b).2 = 0) : mayR S a = 0 ∧ b.length = 32 ∧ S.left ≠ 0 ∧ (writeR S a b).1 = { S with left := if S.left - 1 > -1 then S.left - 1 else -1, pend := S.pend ++ [(a, b)] } := by
  unfold writeR at h ⊢
  by_cases h1 : mayR S a ≠ 0
  · rw [if_pos h1] at h; exact absurd h h1
  · rw [if_neg h1] at h ⊢
    by_cases h2 : b.length ≠ 32
    · rw [if_pos h2] at h; cases h
    · rw [if_neg h2] at h ⊢
      by_cases h3 : S.left = 0
      · rw [if_pos h3] at h; cases h
      · rw [if_neg h3]; exact ⟨by omega, by omega, h3, rfl⟩
theorem PGood.write (h : PGood d n vl ls vk ks vz x) {a : Int} {b : List UInt8} (he : (writeR x.S a b).2 = 0) {Ld' : Own} (hd : DiskO d (writeR x.S a b).1 Ld') {vb : Value} (hvb : RdB x.J vb b) {oN' : Obj} (hN : MapR kI oN' (mput x.rN a vb))
    {va' vx' : Value} {La' Lx' : Own} (ga : Grow 3 1 va' (x.S.pend.length + 1) (x.S.pend.map (fun p => Value.int .i64 p.1) ++ [.int .i64 a]) La') (gx : Grow 26 1 vx' (x.S.pend.length + 1) (x.vs ++ [vb]) Lx') :
    PGood d n vl ls vk ks vz ⟨(writeR x.S a b).1, x.J, Ld', x.bN, x.oS, oN', x.rS, mput x.rN a vb, va', vx', La', Lx', x.vs ++ [vb]⟩ := by
  obtain ⟨hm, hb, hl, hw⟩ := writeR_yes he
  rw [hw] at hd ⊢
  obtain ⟨_, hm0, hm1⟩ := mayR_ok hm
  refine ⟨hd, h.hn, h.mS, hN, h.nS, h.sec, fun c h0 h1 => ?_, h.valS, h.valN.put hvb hb, ?_, ?_, ?_, h.hl, h.hk, h.hz⟩
  · show RdM _ _ _ (readR { x.S with left := _, pend := x.S.pend ++ [(a, b)] } c)
    rw [readR_push]
    exact RdM.put (k := a) hvb c _ (h.now c h0 h1)
  · show Grow _ _ _ (x.S.pend ++ [(a, b)]).length ((x.S.pend ++ [(a, b)]).map _) _
    rw [List.length_append, List.map_append]
    exact ga
  · show Grow _ _ _ (x.S.pend ++ [(a, b)]).length _ _
    rw [List.length_append]
    exact gx
  · show RdAll _ _ ((x.S.pend ++ [(a, b)]).map _)
    rw [List.map_append]
    exact RdAll.push h.rX hvb
/-- The first map, as far as a flush has come. -/
def FlI (J : Imm) (S : DS) (n : Nat) (j : Nat) (rS : List (Int × Value)) : Prop := (rS.map Prod.fst).Nodup ∧ Vals J rS ∧ ∀ a : Int, 0 ≤ a → a < n → RdM J rS a ((flushTo S j).getD a.toNat [])
theorem FlI.start (h : PGood d n vl ls vk ks vz x) : FlI x.J x.S n 0 x.rS := ⟨h.nS, h.valS, h.sec⟩
theorem FlI.next (h : PGood d n vl ls vk ks vz x) {j : Nat} {rS : List (Int × Value)} (hf : FlI x.J x.S n j rS) {p : Int × List UInt8} (hp : x.S.pend[j]? = some p) {u : Value} (hu : RdB x.J u p.2) : FlI x.J x.S n (j + 1) (mput rS p.1 u) := by
  have hok := h.ok
  obtain ⟨hp32, hp0, hp1⟩ := hok.2.2.1 p (List.mem_of_getElem? hp)
  obtain ⟨hfl, _⟩ := flushTo_ok hok j
  refine ⟨mput_nodup hf.1 _ _, hf.2.1.put hu hp32, fun a h0 h1 => ?_⟩
  have := RdM.put (k := p.1) hu a _ (hf.2.2 a h0 h1)
  rw [flushTo_next hp, set_getD h0 (by rw [hfl, h.hn]; exact h1), show ((p.1.toNat : Nat) : Int) = p.1 by omega]
  exact this
theorem PGood.flushed (h : PGood d n vl ls vk ks vz x) (hdn : x.S.down = false) {Ld' : Own} (hd : DiskO d (flushR x.S).1 Ld') {j : Nat} (hj : x.S.pend.length ≤ j) {oS' : Obj} {rS' : List (Int × Value)} (hS : MapR kI oS' rS') (hf : FlI x.J x.S n j rS') :
    PGood d n vl ls vk ks vz ⟨(flushR x.S).1, x.J, Ld', x.bN, oS', x.oN, rS', x.rN, .slice none 0 0, .slice none 0 0, [], [], []⟩ := by
  have hw : (flushR x.S).1 = { x.S with secs := x.S.pend.foldl (fun s p => s.set p.1.toNat p.2) x.S.secs, pend := [] } := by unfold flushR; rw [if_neg (by rw [hdn]; decide)]
  have hok := h.ok
  obtain ⟨hfl, _⟩ := flushTo_ok hok j
  have hsec : (flushR x.S).1.secs = flushTo x.S j := by rw [hw, flushTo_end hj]
  have hpe : (flushR x.S).1.pend = [] := by rw [hw]
  refine ⟨hd, by show (flushR x.S).1.secs.length = n; rw [hsec, hfl]; exact h.hn, hS, h.mN, hf.1, fun a h0 h1 => by show RdM _ _ _ ((flushR x.S).1.secs.getD _ _); rw [hsec]; exact hf.2.2 a h0 h1, fun a h0 h1 => ?_, hf.2.1, h.valN, ?_, ?_, ?_, h.hl, h.hk, h.hz⟩
  · show RdM _ _ _ (readR (flushR x.S).1 a)
    rw [read_flush hok hdn h0 (by rw [h.hn]; exact h1)]
    exact h.now a h0 h1
  · show Grow _ _ _ (flushR x.S).1.pend.length ((flushR x.S).1.pend.map _) _
    rw [hpe]; exact Grow.nil _ _
  · show Grow _ _ _ (flushR x.S).1.pend.length _ _
    rw [hpe]; exact Grow.nil _ _
  · show RdAll _ _ ((flushR x.S).1.pend.map _)
    rw [hpe]; trivial
/-- The first map, as far as a crash has come. -/
def CrI (J : Imm) (S : DS) (ks : List Int) (n : Nat) (j : Nat) (rS : List (Int × Value)) : Prop := (rS.map Prod.fst).Nodup ∧ Vals J rS ∧ ∀ a : Int, 0 ≤ a → a < n → RdM J rS a ((crashTo S ks j).getD a.toNat [])
theorem CrI.start {k2 : List Int} (h : PGood d n vl ls vk ks vz x) : CrI x.J x.S k2 n 0 x.rS := ⟨h.nS, h.valS, h.sec⟩
theorem CrI.mono {J' : Imm} {S : DS} {k2 : List Int} {j : Nat} {rS : List (Int × Value)} (hI : J.le J') (h : CrI J S k2 n j rS) : CrI J' S k2 n j rS := ⟨h.1, h.2.1.mono hI, fun a h0 h1 => (h.2.2 a h0 h1).mono hI⟩
theorem CrI.next {k2 : List Int} {S : DS} (hok : DOk S) (hn : S.secs.length = n) {j : Nat} {rS : List (Int × Value)} (hf : CrI J S k2 n j rS) {p : Int × List UInt8} (hp : S.pend[j]? = some p) {u : Value}
    (hu : RdB J u (p.2.take (keepN k2 j) ++ ((crashTo S k2 j).getD p.1.toNat []).drop (keepN k2 j))) : CrI J S k2 n (j + 1) (mput rS p.1 u) := by
  obtain ⟨hp32, hp0, hp1⟩ := hok.2.2.1 p (List.mem_of_getElem? hp)
  obtain ⟨hfl, hfs⟩ := crashTo_ok hok k2 j
  have hnx := crashTo_next (ks := k2) hp
  have h32 : (p.2.take (keepN k2 j) ++ ((crashTo S k2 j).getD p.1.toNat []).drop (keepN k2 j)).length = 32 := by
    have hi : p.1.toNat < (crashTo S k2 j).length := by rw [hfl]; omega
    have hc : ((crashTo S k2 j).getD p.1.toNat []).length = 32 := by
      rw [List.getD_eq_getElem?_getD, List.getElem?_eq_getElem hi]
      exact hfs _ (List.getElem_mem _)
    have := keepN_le k2 j
    rw [List.length_append, List.length_take, List.length_drop]
    omega
  refine ⟨mput_nodup hf.1 _ _, hf.2.1.put hu h32, fun a h0 h1 => ?_⟩
  have := RdM.put (k := p.1) hu a _ (hf.2.2 a h0 h1)
  rw [hnx, set_getD h0 (by rw [hfl, hn]; exact h1), show ((p.1.toNat : Nat) : Int) = p.1 by omega]
  exact this
/-- What stands under a torn write before it. -/
theorem CrI.at {k2 : List Int} {S : DS} {j : Nat} {rS : List (Int × Value)} (hf : CrI J S k2 n j rS) {a : Int} (h0 : 0 ≤ a) (h1 : a < n) {A : Option Addr} {m c : Nat} (he : (mget rS a).getD (.slice none 0 0) = .slice A m c) (hs : A.isNone = false → ∃ v, mget rS a = some v ∧ v = .slice A m c) (hn : A.isNone = false) : RdB J (.slice A m c) ((crashTo S k2 j).getD a.toNat []) := by
  obtain ⟨v, hv, rfl⟩ := hs hn
  have := hf.2.2 a h0 h1
  unfold RdM at this
  rw [hv] at this
  exact this
theorem CrI.at0 {k2 : List Int} {S : DS} {j : Nat} {rS : List (Int × Value)} (hf : CrI J S k2 n j rS) {a : Int} (h0 : 0 ≤ a) (h1 : a < n) (hg : mget rS a = none) : (crashTo S k2 j).getD a.toNat [] = z32 := by
  have := hf.2.2 a h0 h1
  unfold RdM at this
  rw [hg] at this
  exact this
/-- A map's copy, as far as it has come. -/
def CpI (rS rest rN : List (Int × Value)) : Prop := (∀ p ∈ rest, mget rS p.1 = some p.2) ∧ (rest.map Prod.fst).Nodup ∧ ∀ a, mget rN a = if a ∈ rest.map Prod.fst then none else mget rS a
theorem CpI.start {rS : List (Int × Value)} (hn : (rS.map Prod.fst).Nodup) : CpI rS rS [] := ⟨fun p hp => mget_mem hn hp, hn, fun a => by
  by_cases h : a ∈ rS.map Prod.fst
  · rw [if_pos h]; rfl
  · rw [if_neg h, mget_none.2 h]; rfl⟩
theorem CpI.next {rS rest rest' rN : List (Int × Value)} {k : Int} {u : Value} (h : CpI rS rest rN) (hp : rest.Perm ((k, u) :: rest')) : CpI rS rest' (mput rN k u) := by
  have hk : (rest.map Prod.fst).Perm (k :: rest'.map Prod.fst) := hp.map _
  have hn := hk.nodup_iff.1 h.2.1
  obtain ⟨hn1, hn2⟩ := List.nodup_cons.1 hn
  refine ⟨fun p hp2 => h.1 p (hp.mem_iff.2 (List.mem_cons_of_mem _ hp2)), hn2, fun a => ?_⟩
  rw [mget_put, h.2.2 a]
  have hka := hk.mem_iff (a := a)
  by_cases e : a = k
  · subst e
    rw [if_pos rfl, if_neg hn1]
    exact (h.1 (a, u) (hp.mem_iff.2 (List.mem_cons_self ..))).symm
  · rw [if_neg e]
    by_cases h2 : a ∈ rest'.map Prod.fst
    · rw [if_pos h2, if_pos (hka.2 (List.mem_cons_of_mem _ h2))]
    · rw [if_neg h2, if_neg (fun h3 => by rcases List.mem_cons.1 (hka.1 h3) with h4 | h4; exact e h4; exact h2 h4)]
theorem CpI.done {rS rN : List (Int × Value)} (h : CpI rS [] rN) (a : Int) : mget rN a = mget rS a := by have := h.2.2 a; simpa using this
theorem Vals.of_get {rS rN : List (Int × Value)} (hn : (rN.map Prod.fst).Nodup) (h : ∀ a, mget rN a = mget rS a) (hv : Vals J rS) : Vals J rN := fun p hp => hv (p.1, p.2) (mget_some (by rw [← h]; exact mget_mem hn hp))
theorem PGood.crashed {k2 : List Int} (h : PGood d n vl ls vk ks vz x) {S0 : DS} (hok : DOk S0) (hn0 : S0.secs.length = n) {Ld' : Own} (hd : DiskO d (crashR S0 k2) Ld') {j : Nat} (hj : S0.pend.length ≤ j) {oS' oN' : Obj} {rS' rN' : List (Int × Value)} {bN' : Nat} (hS : MapR kI oS' rS') (hN : MapR kI oN' rN') (hf : CrI x.J S0 k2 n j rS') (hnd : (rN'.map Prod.fst).Nodup) (hc : ∀ a, mget rN' a = mget rS' a) :
    PGood d n vl ls vk ks vz ⟨crashR S0 k2, x.J, Ld', bN', oS', oN', rS', rN', .slice none 0 0, .slice none 0 0, [], [], []⟩ := by
  obtain ⟨hfl, _⟩ := crashTo_ok hok k2 j
  have hsec : (crashR S0 k2).secs = crashTo S0 k2 j := (crashTo_end hj).symm
  refine ⟨hd, by show (crashR S0 k2).secs.length = n; rw [hsec, hfl]; exact hn0, hS, hN, hf.1, fun a h0 h1 => by show RdM _ _ _ ((crashR S0 k2).secs.getD _ _); rw [hsec]; exact hf.2.2 a h0 h1, fun a h0 h1 => ?_, hf.2.1, Vals.of_get hnd hc hf.2.1, Grow.nil _ _, Grow.nil _ _, trivial, h.hl, h.hk, h.hz⟩
  have e : readR (crashR S0 k2) a = (crashR S0 k2).secs.getD a.toNat [] := rfl
  show RdM _ rN' _ (readR (crashR S0 k2) a)
  rw [e, hsec]
  have := hf.2.2 a h0 h1
  unfold RdM at this ⊢
  rw [hc]
  exact this
theorem PGood.nowAt (h : PGood d n vl ls vk ks vz x) {a : Int} (h0 : 0 ≤ a) (h1 : a < n) {A : Option Addr} {m c : Nat} (hs : A.isNone = false → ∃ v, mget x.rN a = some v ∧ v = .slice A m c) (hn : A.isNone = false) : RdB x.J (.slice A m c) (readR x.S a) := by
  obtain ⟨v, hv, rfl⟩ := hs hn
  have := h.now a h0 h1
  unfold RdM at this
  rw [hv] at this
  exact this
theorem PGood.nowAt0 (h : PGood d n vl ls vk ks vz x) {a : Int} (h0 : 0 ≤ a) (h1 : a < n) (hg : mget x.rN a = none) : readR x.S a = z32 := by
  have := h.now a h0 h1
  unfold RdM at this
  rw [hg] at this
  exact this
theorem PGood.mono {J' : Imm} (h : PGood d n vl ls vk ks vz x) (hI : x.J.le J') : PGood d n vl ls vk ks vz { x with J := J' } := h.lift hI
theorem PGood.init {m : Int} {Ld : Own} {bN : Nat} (hd : DiskO d (newR m) Ld) (hl : RdI J vl ls) (hk : RdI J vk ks) (hz : RdB J vz z32) : PGood d (newR m).secs.length vl ls vk ks vz ⟨newR m, J, Ld, bN, .map #[] 0, .map #[] 0, [], [], .slice none 0 0, .slice none 0 0, [], [], []⟩ := by
  have hs : ∀ a : Int, 0 ≤ a → a < ((newR m).secs.length : Nat) → (newR m).secs.getD a.toNat [] = z32 := fun a h0 h1 => by
    have ha : a.toNat < (newR m).secs.length := by omega
    rw [List.getD_eq_getElem?_getD, List.getElem?_eq_getElem ha]
    simp [newR, z32]
  refine ⟨hd, rfl, MapR.empty _, MapR.empty _, List.nodup_nil, fun a h0 h1 => ?_, fun a h0 h1 => ?_, fun p hp => absurd hp (List.not_mem_nil), fun p hp => absurd hp (List.not_mem_nil), Grow.nil _ _, Grow.nil _ _, trivial, hl, hk, hz⟩
  · exact hs a h0 h1
  · exact hs a h0 h1
theorem RdI.drop {v : Value} {xs : List Int} (h : RdI J v xs) {lo : Nat} (hlo : lo ≤ xs.length) : RdI J (Go.Proofs.YtdhgbcbnkddfdaaX.partV v lo xs.length 1) (xs.drop lo) := by
  have h1 := RdL.partV h (lo := lo) (hi := xs.length) hlo (Nat.le_refl _)
  rw [Nat.mul_one, Nat.mul_one, ← List.map_drop, List.take_of_length_le (by rw [List.length_map, List.length_drop]; exact Nat.le_refl _)] at h1
  show RdL J 1 _ (xs.drop lo).length _
  rw [List.length_drop]
  exact h1
theorem perm_mm {α : Type} (a b : α) (A B : List α) : (a :: b :: (A ++ B)).Perm (A ++ (a :: b :: B)) := ((List.perm_middle (l₁ := A) (a := b) (l₂ := B)).symm.cons a).trans List.perm_middle.symm
theorem perm_mA {α : Type} (a b : α) (D A B : List α) : (a :: b :: (D ++ (A ++ B))).Perm (A ++ (a :: b :: (D ++ B))) := (((List.perm_append_comm_assoc D A B).cons b).cons a).trans (perm_mm a b A (D ++ B))
theorem perm_mX {α : Type} (a b : α) (D A X B : List α) : (a :: b :: (D ++ (A ++ (X ++ B)))).Perm (X ++ (a :: b :: (D ++ (A ++ B)))) :=
  ((((List.perm_append_comm_assoc A X B).append_left D).cons b).cons a).trans (perm_mA a b D X (A ++ B))
theorem own_two {α : Type} (a b : α) (D A X B : List α) : (a :: b :: (D ++ ([] ++ ([] ++ B)))).Sublist (a :: b :: (D ++ (A ++ (X ++ B)))) :=
  (((List.Sublist.refl D).append ((List.sublist_append_right X B).trans (List.sublist_append_right A _))).cons_cons b).cons_cons a
theorem kI_inj : ∀ a b, kI a = kI b → a = b := fun a b h => by cases h; rfl
theorem fl8 (S : DS) : decide ((flushR S).2 = 8) = S.down := by
  unfold flushR
  cases h : S.down <;> simp
theorem fl0 {S : DS} (h : S.down = false) : (flushR S).2 = 0 := by
  unfold flushR
  rw [if_neg (by rw [h]; decide)]
theorem keepb {ks : List Int} {j : Nat} {b : Bool} (h : b = true ↔ (j < ks.length ∧ (ks.getD j 0 = 1 ∨ ks.getD j 0 = 2))) : some (Value.bool b) = some (Value.bool (decide (keepN ks j ≠ 0))) := by
  congr 2
  have h2 : keepN ks j ≠ 0 ↔ (j < ks.length ∧ (ks.getD j 0 = 1 ∨ ks.getD j 0 = 2)) := by
    unfold keepN keptR
    by_cases h1 : j < ks.length
    · rw [if_pos h1]
      by_cases e1 : ks.getD j 0 = 1
      · rw [if_pos e1]; exact ⟨fun _ => ⟨h1, .inl e1⟩, fun _ => by decide⟩
      · rw [if_neg e1]
        by_cases e2 : ks.getD j 0 = 2
        · rw [if_pos e2]; exact ⟨fun _ => ⟨h1, .inr e2⟩, fun _ => by decide⟩
        · rw [if_neg e2]; exact ⟨fun h3 => absurd rfl h3, fun h3 => (h3.2.elim e1 e2).elim⟩
    · rw [if_neg h1]; exact ⟨fun h3 => absurd rfl h3, fun h3 => absurd h3.1 h1⟩
  rw [← h2] at h
  cases b
  · rw [decide_eq_false (fun h3 => by cases h.2 h3)]
  · rw [decide_eq_true (h.1 rfl)]
theorem keep16 {ks : List Int} {j : Nat} (h : decide (keepN ks j ≠ 0) = true) : 16 * ks.getD j 0 = (keepN ks j : Int) := by
  have h1 := of_decide_eq_true h
  unfold keepN keptR at h1 ⊢
  by_cases h2 : j < ks.length
  · rw [if_pos h2] at h1 ⊢
    by_cases e1 : ks.getD j 0 = 1
    · rw [if_pos e1, e1]; rfl
    · rw [if_neg e1] at h1 ⊢
      by_cases e2 : ks.getD j 0 = 2
      · rw [if_pos e2, e2]; rfl
      · rw [if_neg e2] at h1; exact absurd rfl h1
  · rw [if_neg h2] at h1; exact absurd rfl h1
theorem keep0 {ks : List Int} {j : Nat} (h : decide (keepN ks j ≠ 0) = false) : (0 : Int) = (keepN ks j : Int) := by
  have h1 := of_decide_eq_false h
  omega
end Go.Proofs.YtdhgbcbnkddfdaaX
