/- Plain: a disk formatted; a new disk holds no log. No program in sight. -/
import Derived.Test.YthocicjjighbnaaG7
namespace Go.Proofs.YthocicjjighbnaaX
set_option linter.unusedVariables false
set_option linter.unusedSimpArgs false
set_option linter.constructorNameAsVariable false
open Go Go.RowKit

theorem zeroB_not : openOk zeroB = false := by decide
theorem zeroB_open : openR zeroB = ⟨0, 0, 0, 0, [], 2⟩ := openR_bad zeroB_not
theorem zeroB_slot : slotAt zeroB = none := by
  unfold slotAt
  rw [zeroB_open]
  rfl
theorem zero_norec (Y : List (List UInt8)) (hY : secAt Y 2 = zeroB) : NoRec (flat Y) (beginR slot1.h + 256) slot1.e slot1.b (beginR slot1.h) slot1.f := by
  intro me b next hfr _ _
  generalize beginR slot1.h + 256 = en at hfr
  have e2 : beginR slot1.h = 2 := by decide
  rw [e2] at hfr
  have hm := frr_mark hfr
  have f3 := hm.2.2
  rw [readR_nil rfl] at f3
  have f4 : seqOf (secAt Y 2) = 1 := f3
  rw [hY] at f4
  exact absurd f4 (by decide)
theorem format_di {S S' : DS} {er : Int} (hd : S.down = false) (hl : S.secs.length = 514) (hok : DOk S) (hok' : DOk S') (hf : FmR S S' er) :
    (er = 0 ∧ DI S'.secs slot1 [] 2 1 ∧ S'.pend = [] ∧ S'.down = false ∧ (S.left = -1 → S'.left = -1)) ∨ (er = 8 ∧ S.left ≠ -1 ∧ S'.down = true) := by
  have hz32 : zeroB.length = 32 := rfl
  have hput := fun k (hk : k ≤ 514) hz => put_any hd (at_ := 0) (f := fun _ => zeroB) (n := 514) (by omega) (by omega) (fun _ _ => hz32) k hk hz
  have hflush : ∀ l, (S.left = -1 → l = -1) → zput S 514 = { S with pend := S.pend ++ putP 0 (fun _ => zeroB) 514, left := l } → ∃ X, flushR (zput S 514) = ({ S with secs := X, pend := [], left := l }, 0) ∧ X.length = 514 ∧ ∀ p : Int, 0 ≤ p → p < 514 → secAt X p = zeroB := fun l _ hz => by
    rw [hz]
    refine ⟨_, flush_ok (S := { S with pend := S.pend ++ putP 0 (fun _ => zeroB) 514, left := l }) hd, by rw [flush_len]; exact hl, fun p h0 h1 => ?_⟩
    have h2 := flush_read (S := { S with pend := S.pend ++ putP 0 (fun _ => zeroB) 514, left := l }) hd (fun x hx => by
      rcases List.mem_append.1 hx with hx | hx
      · exact (hok.2.2.1 x hx).2
      · obtain ⟨j, hj, rfl⟩ := putP_mem hx
        dsimp only
        omega) (p := p) h0 (by show p < (S.secs.length : Int); omega)
    rw [flush_ok (S := { S with pend := S.pend ++ putP 0 (fun _ => zeroB) 514, left := l }) hd, readR_nil rfl] at h2
    dsimp only at h2
    rw [h2]
    have h3 := read_in (S := { S with left := l }) (at_ := 0) (f := fun _ => zeroB) (n := 514) (j := p.toNat) (by omega)
    rwa [show (0 : Int) + ((p.toNat : Nat) : Int) = p by omega] at h3
  cases hf with
  | len h => omega
  | wr _ hk hz hne =>
    rename_i k hk0
    obtain ⟨l, h, hl0⟩ := hput k (by omega) hz
    have e1 : zput S (k + 1) = (writeR (putTo S 0 (fun _ => zeroB) k) (0 + (k : Int)) zeroB).1 := rfl
    have e2 : zputE S k = (writeR (putTo S 0 (fun _ => zeroB) k) (0 + (k : Int)) zeroB).2 := rfl
    rw [h] at e1 e2
    rcases write_cases (S := { S with pend := S.pend ++ putP 0 (fun _ => zeroB) k, left := l }) hd (a := 0 + (k : Int)) (b := zeroB) (by omega) (by show 0 + (k : Int) < (S.secs.length : Int); omega) hz32 with ⟨h', hl'⟩ | ⟨l', h', _⟩
    · rw [h'] at e1 e2
      rw [e1, e2]
      have hl'' : l = 0 := hl'
      exact .inr ⟨rfl, fun hc => by have := hl0 hc; omega, rfl⟩
    · rw [h'] at e2
      exact absurd e2 hne
  | fl _ hz hne =>
    obtain ⟨l, h, hl0⟩ := hput 514 (Nat.le_refl _) hz
    obtain ⟨X, hX, _⟩ := hflush l hl0 h
    rw [hX] at hne
    exact absurd rfl hne
  | st _ hz _ =>
    obtain ⟨l, h, hl0⟩ := hput 514 (Nat.le_refl _) hz
    obtain ⟨X, hX, hX1, hX2⟩ := hflush l hl0 h
    rw [hX] at hok' ⊢
    dsimp only at hok' ⊢
    rcases store_cases (S := { S with secs := X, pend := [], left := l }) hd rfl hX1 (s := slot1) (by decide) (by decide) with ⟨hs, hl1⟩ | ⟨l', hs, hl1⟩
    · rw [hs]
      have hl'' : l = 0 := hl1
      exact .inr ⟨rfl, fun hc => by have := hl0 hc; omega, rfl⟩
    · rw [hs] at hok' ⊢
      have hsec : ∀ q : Int, 0 ≤ q → secAt (X.set (slot1.n % 2).toNat (slotX slot1)) q = if slot1.n % 2 = q then slotX slot1 else secAt X q := fun q hq => sec_set (by decide) (by rw [hX1]; decide) hq
      have h2 : ∀ p : Int, 2 ≤ p → p < 514 → secAt (X.set (slot1.n % 2).toNat (slotX slot1)) p = zeroB := fun p hp hp2 => by
        rw [hsec p (by omega), if_neg (by show ¬ (1 : Int) % 2 = p; omega), hX2 p (by omega) hp2]
      refine .inl ⟨rfl, ⟨by dsimp only; rw [List.length_set]; exact hX1, hok'.2.1, by unfold SlotOk slot1; decide, by decide, by decide, ?_, ?_, fun p hp hp2 => ?_, ?_⟩, rfl, hd, fun hc => hl1 (hl0 hc)⟩
      · show secAt (X.set (slot1.n % 2).toNat (slotX slot1)) (slot1.n % 2) = _
        rw [hsec _ (by decide), if_pos rfl]
      · show tlQ (secAt (X.set (slot1.n % 2).toNat (slotX slot1)) ((slot1.n + 1) % 2)) < slot1.n
        rw [hsec _ (by decide), if_neg (by decide), hX2 _ (by decide) (by show ((1 : Int) + 1) % 2 < 514; omega)]
        decide
      · show epochOf (secAt (X.set (slot1.n % 2).toNat (slotX slot1)) p) ≤ slot1.e ∧ tlE (secAt (X.set (slot1.n % 2).toNat (slotX slot1)) p) ≤ slot1.e
        rw [h2 p hp hp2]
        decide
      · exact recs_stop (zero_norec _ (h2 2 (by omega) (by omega)))
/-- A disk on which nothing was written. -/
def newL : DS := ⟨List.replicate 514 zeroB, [], -1, false⟩
theorem newL_none : newestR newL = (slot0, 3) := by
  have h : ∀ p : Int, p = 0 ∨ p = 1 → slotAt (readR newL p) = none := fun p hp => by
    rw [readR_nil rfl]
    rcases hp with rfl | rfl <;> exact zeroB_slot
  unfold newestR
  rw [if_neg (by decide), if_neg (by show ¬ (List.replicate 514 zeroB).length < 2; rw [List.length_replicate]; decide), h 0 (.inl rfl), h 1 (.inr rfl)]
  rfl
theorem newL_opn {S' : DS} {er : Int} {G : LG} {bs : List (List UInt8)} (h : OpnR newL S' er G bs) : S' = newL ∧ er = 3 := by
  have h0 := newL_none
  cases h with
  | len h => exact absurd (by show ((List.replicate 514 zeroB).length : Int) = 514; rw [List.length_replicate]; omega) h
  | none _ _ => rw [h0]; exact ⟨rfl, rfl⟩
  | st1 _ h _ => rw [h0] at h; cases h
  | full _ h _ _ => rw [h0] at h; cases h
  | st2 _ h _ _ _ => rw [h0] at h; cases h
  | ok _ h _ _ _ _ => rw [h0] at h; cases h
end Go.Proofs.YthocicjjighbnaaX
