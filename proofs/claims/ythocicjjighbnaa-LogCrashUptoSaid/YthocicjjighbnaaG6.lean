/- Plain: what stands on a log's disk; opening, appending, turning, formatting keep it, also cut off. No program in sight. -/
import Derived.Test.YthocicjjighbnaaG5
namespace Go.Proofs.YthocicjjighbnaaX
set_option linter.unusedVariables false
set_option linter.unusedSimpArgs false
open Go Go.RowKit

def flat (X : List (List UInt8)) : DS := ⟨X, [], -1, false⟩
theorem read_flat {S : DS} (h : S.pend = []) (p : Int) : readR S p = readR (flat S.secs) p := by rw [readR_nil h, readR_nil rfl]; rfl
/-- What stands on the disk: the slot, the records of its half, where they end. -/
structure DI (X : List (List UInt8)) (s : Slot) (bs : List (List UInt8)) (a nx : Int) : Prop where
  len : X.length = 514
  all : ∀ x ∈ X, x.length = 32
  so : SlotOk s
  n1 : 1 ≤ s.n
  be : s.b ≤ s.e
  sl : secAt X (s.n % 2) = slotX s
  ot : tlQ (secAt X ((s.n + 1) % 2)) < s.n
  mx : ∀ p : Int, 2 ≤ p → p < 514 → epochOf (secAt X p) ≤ s.e ∧ tlE (secAt X p) ≤ s.e
  rc : Recs (flat X) (beginR s.h + 256) s.e s.b (beginR s.h) s.f bs a nx
/-- A log at work. -/
structure LI (S : DS) (G : LG) (bs : List (List UInt8)) : Prop where
  on : S.down = false
  pn : S.pend = []
  ok : G.bad = 0
  di : DI S.secs G.s bs G.at_ G.nx
  st : ∀ p : Int, 2 ≤ p → p < 514 → (epochOf (secAt S.secs p) = G.s.e → seqOf (secAt S.secs p) < G.nx) ∧ (tlE (secAt S.secs p) = G.s.e → tlQ (secAt S.secs p) < G.nx)
theorem SlotOk.may {s : Slot} (h : SlotOk s) : mayM s.e s.n = true := by
  unfold SlotOk at h
  unfold mayM
  simp only [Bool.and_eq_true, decide_eq_true_eq]
  omega
theorem DI.rng {X : List (List UInt8)} {s : Slot} {bs : List (List UInt8)} {a nx : Int} (h : DI X s bs a nx) : beginR s.h ≤ a ∧ a ≤ beginR s.h + 256 ∧ nx = s.f + (bs.length : Nat) ∧ 0 ≤ s.f ∧ beginR s.h = 2 + s.h * 256 ∧ 0 ≤ s.h ∧ s.h ≤ 1 := by
  have h1 := recs_rng h.rc
  have h2 := h.so
  unfold SlotOk at h2
  exact ⟨h1.1, h1.2.2 (by omega), h1.2.1, h2.2.2.2.2.2.2.1, rfl, h2.2.2.2.2.1, h2.2.2.2.2.2.1⟩
theorem slot_tl {s : Slot} (h : SlotOk s) : tlQ (slotX s) = s.n := (seal_tl (show sealM s.e s.n 0 1 (slotB s) = true by rw [slot_seal]; exact h.may)).2
theorem slotAt_tl {x : List UInt8} {y : Slot} (h : slotAt x = some y) : tlQ x = y.n := by
  unfold slotAt at h
  split at h
  · rename_i hs
    simp only [isSlot, Bool.and_eq_true, decide_eq_true_eq] at hs
    obtain rfl : slotOf (openR x) = y := Option.some.inj h
    exact (open_marks hs.1).2.2.2
  · cases h
theorem DI.newest {S : DS} {s : Slot} {bs : List (List UInt8)} {a nx : Int} (h : DI S.secs s bs a nx) (hd : S.down = false) (hp : S.pend = []) : newestR S = (s, 0) := by
  have hso := h.so
  have h1 : slotAt (readR S (s.n % 2)) = some s := by
    rw [readR_nil hp, h.sl]
    unfold SlotOk at hso
    exact slotAt_X h.so.may (by omega) (by omega) (by omega)
  have h2 : ∀ y, slotAt (readR S ((s.n + 1) % 2)) = some y → y.n < s.n := fun y hy => by
    have := slotAt_tl hy
    have h3 := h.ot
    rw [readR_nil hp] at this
    omega
  have hl := h.len
  unfold newestR
  rw [if_neg (by rw [hd]; decide), if_neg (by omega)]
  have : better (slotAt (readR S 0)) (slotAt (readR S 1)) = some s := by
    by_cases hn : s.n % 2 = 0
    · rw [hn] at h1
      rw [show (s.n + 1) % 2 = 1 by omega] at h2
      rw [h1]
      cases hy : slotAt (readR S 1) with
      | none => rfl
      | some y =>
        have := h2 y hy
        exact if_neg (by omega)
    · rw [show s.n % 2 = 1 by omega] at h1
      rw [show (s.n + 1) % 2 = 0 by omega] at h2
      rw [h1]
      cases hy : slotAt (readR S 0) with
      | none => rfl
      | some y =>
        have := h2 y hy
        exact if_pos (by omega)
  rw [this]
theorem recs_in {S S' : DS} (hl : S'.secs.length = S.secs.length) (hdn : S'.down = S.down) {en e least p nx a n : Int} {bs : List (List UInt8)} (h : Recs S en e least p nx bs a n) : (∀ x, p ≤ x → x < en → readR S' x = readR S x) → Recs S' en e least p nx bs a n := by
  induction h with
  | stop h1 h2 => exact fun hr => .stop (frr_in hl hdn hr h1) h2
  | step h1 h2 h3 h4 ih =>
    intro hr
    obtain ⟨m, m1, m2, _⟩ := frr_inv h1
    exact .step (frr_in hl hdn hr h1) h2 h3 (ih fun x hx hx2 => hr x (by omega) hx2)
theorem set_same {X : List (List UInt8)} {p : Int} {v : List UInt8} (h : secAt X p = v) (h0 : 0 ≤ p) (h1 : p < X.length) : X.set p.toNat v = X := by
  have hp : p.toNat < X.length := by omega
  subst h
  unfold secAt
  rw [List.getD_eq_getElem?_getD, List.getElem?_eq_getElem hp, Option.getD_some]
  exact List.set_getElem_self hp
theorem sec_set {X : List (List UInt8)} {i q : Int} {v : List UInt8} (hi : 0 ≤ i) (hl : i < X.length) (hq : 0 ≤ q) : secAt (X.set i.toNat v) q = if i = q then v else secAt X q := by
  unfold secAt
  rw [getD_setL]
  by_cases h : i = q
  · rw [if_pos h, if_pos ⟨by omega, by omega⟩]
  · rw [if_neg h, if_neg (by omega)]
theorem secAt_len {X : List (List UInt8)} (h : ∀ x ∈ X, x.length = 32) {p : Int} (h0 : 0 ≤ p) (h1 : p < X.length) : (secAt X p).length = 32 := by
  have hp : p.toNat < X.length := by omega
  unfold secAt
  rw [List.getD_eq_getElem?_getD, List.getElem?_eq_getElem hp, Option.getD_some]
  exact h _ (List.getElem_mem hp)
/-- The marks of a record's first sector. -/
theorem frr_mark {S : DS} {at_ en e q next : Int} {b : List UInt8} (h : FrR S at_ en (e, q, b, next, 0)) : at_ < en ∧ epochOf (readR S at_) = e ∧ seqOf (readR S at_) = q := by
  obtain ⟨n, h1, _, _, h3, h4, h5, _⟩ := frr_inv h
  have h0 := h3 0 (by omega)
  have hm := open_marks (x := readR S (at_ + ((0 : Nat) : Int))) h0.2.1
  have e0 : at_ + ((0 : Nat) : Int) = at_ := by omega
  rw [show openR (readR S (at_ + ((0 : Nat) : Int))) = oAt S at_ 0 from rfl, ← h4, ← h5, e0] at hm
  exact ⟨by omega, hm.1, hm.2.1⟩
/-- A log's disk is opened. -/
theorem open_di {S S' : DS} {s : Slot} {bs bs' : List (List UInt8)} {a nx er : Int} {G : LG} (hd : S.down = false) (hp : S.pend = []) (h : DI S.secs s bs a nx) (hb : s.n < 16777215 ∧ s.e < 65535) (ho : OpnR S S' er G bs') :
    (er = 0 ∧ bs' = bs ∧ G = ⟨s.up, a, nx, 0⟩ ∧ LI S' G bs ∧ (S.left = -1 → S'.left = -1)) ∨ (er = 8 ∧ S.left ≠ -1 ∧ S'.down = true ∧ S'.pend = [] ∧ S'.secs = S.secs) := by
  have hnw := h.newest hd hp
  have hl := h.len
  have hso := h.so
  have hrg := h.rng
  have hso2 : SlotOk s.up := by
    unfold SlotOk at hso ⊢
    unfold Slot.up
    dsimp only
    omega
  have hn0 : 0 ≤ s.n := by have := h.n1; omega
  have hsame : S.secs.set (s.n % 2).toNat (slotX s) = S.secs := set_same h.sl (by omega) (by omega)
  have h1 := store_cases hd hp hl hso.may hn0
  rw [hsame] at h1
  have h2 : ∀ l, (S.left = -1 → l = -1) → (storeR { S with secs := S.secs, pend := [], left := l } s.up = ({ S with secs := S.secs, pend := [], left := l, down := true }, 8) ∧ l = 0) ∨ ∃ l', storeR { S with secs := S.secs, pend := [], left := l } s.up = ({ S with secs := S.secs.set ((s.n + 1) % 2).toNat (slotX s.up), pend := [], left := l' }, 0) ∧ (l = -1 → l' = -1) :=
    fun l _ => store_cases (S := { S with secs := S.secs, pend := [], left := l }) hd rfl hl hso2.may (by show 0 ≤ s.n + 1; omega)
  cases ho with
  | len h' => exact absurd (by omega) h'
  | none _ h' => rw [hnw] at h'; exact absurd rfl h'
  | st1 _ _ h' =>
    rw [hnw] at h' ⊢
    dsimp only at h' ⊢
    rcases h1 with ⟨h1, hl0⟩ | ⟨l, h1, _⟩
    · rw [h1]
      exact .inr ⟨rfl, by omega, rfl, hp, rfl⟩
    · rw [h1] at h'; exact absurd rfl h'
  | full _ _ _ h' => rw [hnw] at h'; dsimp only at h'; omega
  | st2 _ _ h'' _ h' =>
    rw [hnw] at h' h'' ⊢
    dsimp only at h' h'' ⊢
    rcases h1 with ⟨h1, hl0⟩ | ⟨l, h1, hl1⟩
    · rw [h1] at h''; cases h''
    · rw [h1] at h' ⊢
      dsimp only at h' ⊢
      rcases h2 l hl1 with ⟨h2, hl2⟩ | ⟨l', h2, _⟩
      · rw [h2]
        exact .inr ⟨rfl, fun hc => by have := hl1 hc; omega, rfl, rfl, rfl⟩
      · rw [h2] at h'; exact absurd rfl h'
  | ok _ _ h'' _ h' hrec =>
    rw [hnw] at h' h'' hrec ⊢
    dsimp only at h' h'' hrec ⊢
    rcases h1 with ⟨h1, hl0⟩ | ⟨l, h1, hl1⟩
    · rw [h1] at h''; cases h''
    · rw [h1] at h' ⊢
      dsimp only at h' ⊢
      rcases h2 l hl1 with ⟨h2, hl2⟩ | ⟨l', h2, hl2⟩
      · rw [h2] at h'; cases h'
      · rw [h2]
        dsimp only
        have hrec2 : Recs S (beginR s.h + 256) s.e s.b (beginR s.h) s.f bs a nx := recs_in (S := flat S.secs) (S' := S) rfl hd h.rc (fun x _ _ => read_flat hp x)
        obtain ⟨rfl, rfl, rfl⟩ := recs_fun hrec2 hrec
        have hsec : ∀ q : Int, 0 ≤ q → secAt (S.secs.set ((s.n + 1) % 2).toNat (slotX s.up)) q = if (s.n + 1) % 2 = q then slotX s.up else secAt S.secs q := fun q hq => sec_set (by omega) (by omega) hq
        refine .inl ⟨rfl, rfl, rfl, ⟨hd, rfl, rfl, ⟨?_, ?_, hso2, ?_, ?_, ?_, ?_, ?_, ?_⟩, ?_⟩, fun hc => hl2 (hl1 hc)⟩
        · dsimp only; rw [List.length_set]; exact hl
        · intro x hx
          rcases List.mem_or_eq_of_mem_set hx with hx | rfl
          · exact h.all x hx
          · exact slotX_len _
        · show 1 ≤ s.n + 1
          omega
        · have := h.be
          show s.b ≤ s.e + 1
          omega
        · show secAt (S.secs.set ((s.n + 1) % 2).toNat (slotX s.up)) ((s.n + 1) % 2) = _
          rw [hsec _ (by omega), if_pos rfl]
        · show tlQ (secAt (S.secs.set ((s.n + 1) % 2).toNat (slotX s.up)) ((s.n + 1 + 1) % 2)) < s.n + 1
          rw [hsec _ (by omega), if_neg (by omega), show (s.n + 1 + 1) % 2 = s.n % 2 by omega, h.sl, slot_tl hso]
          omega
        · intro p hp2 hp3
          have := h.mx p hp2 hp3
          show epochOf (secAt (S.secs.set ((s.n + 1) % 2).toNat (slotX s.up)) p) ≤ s.e + 1 ∧ tlE (secAt (S.secs.set ((s.n + 1) % 2).toNat (slotX s.up)) p) ≤ s.e + 1
          rw [hsec p (by omega), if_neg (by omega)]
          omega
        · have hread : ∀ x : Int, 2 ≤ x → readR (flat (S.secs.set ((s.n + 1) % 2).toNat (slotX s.up))) x = readR (flat S.secs) x := fun x hx => by
            rw [readR_nil rfl, readR_nil rfl]
            show secAt (S.secs.set ((s.n + 1) % 2).toNat (slotX s.up)) x = secAt S.secs x
            rw [hsec x (by omega), if_neg (by omega)]
          have hlen : (flat (S.secs.set ((s.n + 1) % 2).toNat (slotX s.up))).secs.length = (flat S.secs).secs.length := List.length_set
          obtain ⟨least', e1, e2, e3, e4⟩ := recs_ext (S' := flat (S.secs.set ((s.n + 1) % 2).toNat (slotX s.up))) hlen rfl (e' := s.e + 1) (by omega) h.rc (fun x hx _ => hread x (by omega))
          have e5 := e4 [] _ _ (recs_stop fun me b next hf hm1 hm2 => by
            have hf2 := frr_in (S' := flat S.secs) hlen.symm rfl (fun p hp1 _ => (hread p (by omega)).symm) hf
            obtain ⟨f1, f2, _⟩ := frr_mark hf2
            have f3 := h.mx a (by omega) (by omega)
            rw [readR_nil rfl] at f2
            exact e3 me b next hf2 hm1 (by rw [← f2]; exact f3.1))
          rw [List.append_nil] at e5
          exact e5
        · intro p hp2 hp3
          have := h.mx p hp2 hp3
          show (epochOf (secAt (S.secs.set ((s.n + 1) % 2).toNat (slotX s.up)) p) = s.e + 1 → _) ∧ (tlE (secAt (S.secs.set ((s.n + 1) % 2).toNat (slotX s.up)) p) = s.e + 1 → _)
          rw [hsec p (by omega), if_neg (by omega)]
          exact ⟨fun h => by omega, fun h => by omega⟩
end Go.Proofs.YthocicjjighbnaaX
