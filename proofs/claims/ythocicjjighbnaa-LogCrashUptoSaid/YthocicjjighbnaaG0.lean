/- The log in plain words: slots, what is stored, loaded, found. Own lemmas. -/
import Derived.Test.YthocicjjighbnaaR5
namespace Go.Proofs.YthocicjjighbnaaX
set_option linter.unusedVariables false
set_option linter.unusedSimpArgs false
open Go Go.RowKit
variable {w0 w : World} {I : Imm} {L : Own}

/-- A slot: its number, the epoch, the half, the first record's number, the epoch in which the half was begun. -/
structure Slot where
  n : Int
  e : Int
  h : Int
  f : Int
  b : Int
  deriving DecidableEq
def slot0 : Slot := ⟨0, 0, 0, 0, 0⟩
def slotV (s : Slot) : List Value := [.int .i64 s.n, .int .i64 s.e, .int .i64 s.h, .int .i64 s.f, .int .i64 s.b]
theorem slotV_all (s : Slot) : (slotV s).all Value.oneCell' = true := rfl
def slotB (s : Slot) : List UInt8 := [u8 s.h, u8 (s.f / 2 ^ 16), u8 (s.f / 2 ^ 8), u8 s.f, u8 (s.b / 2 ^ 8), u8 s.b]
/-- A slot's sector. -/
def slotX (s : Slot) : List UInt8 := sealB s.e s.n 0 1 (slotB s)
theorem slot_seal (s : Slot) : sealM s.e s.n 0 1 (slotB s) = mayM s.e s.n := by
  unfold sealM
  rw [show (slotB s).length = 6 from rfl]
  simp
theorem slotX_len (s : Slot) : (slotX s).length = 32 := sealB_length (by show 6 ≤ 19; decide)
def storeR (S : DS) (s : Slot) : DS × Int :=
  if mayM s.e s.n = false then (S, 5) else if (writeR S (s.n.tmod 2) (slotX s)).2 ≠ 0 then writeR S (s.n.tmod 2) (slotX s) else flushR (writeR S (s.n.tmod 2) (slotX s)).1
/-- The slot of a sector's bytes. -/
def slotOf (o : OpenR) : Slot := ⟨o.q, o.e, bat o.b 0, bat o.b 1 * 2 ^ 16 + bat o.b 2 * 2 ^ 8 + bat o.b 3, bat o.b 4 * 2 ^ 8 + bat o.b 5⟩
def isSlot (o : OpenR) : Bool := decide (o.err = 0) && (decide (o.p = 0) && (decide (o.n = 1) && (decide (o.b.length = 6) && decide (bat o.b 0 ≤ 1))))
def slotAt (x : List UInt8) : Option Slot := if isSlot (openR x) then some (slotOf (openR x)) else none
def loadR (S : DS) (a : Int) : Slot × Bool × Int := if mayR S a ≠ 0 then (slot0, false, mayR S a) else match slotAt (readR S a) with
  | some s => (s, true, 0)
  | none => (slot0, false, 0)
/-- The better of two. -/
def better : Option Slot → Option Slot → Option Slot
  | none, y => y
  | some x, none => some x
  | some x, some y => if y.n > x.n then some y else some x
def newestR (S : DS) : Slot × Int :=
  if S.down = true then (slot0, 8) else if S.secs.length < 2 then (slot0, 9) else match better (slotAt (readR S 0)) (slotAt (readR S 1)) with
  | some s => (s, 0)
  | none => (slot0, 3)
/-- A log: its slot, where the next record goes, its number, what put it out of use. -/
structure LG where
  s : Slot
  at_ : Int
  nx : Int
  bad : Int
def logV (d : Value) (G : LG) : List Value := [d, .int .i64 G.s.n, .int .i64 G.s.e, .int .i64 G.s.h, .int .i64 G.s.f, .int .i64 G.s.b, .int .i64 G.at_, .int .i64 G.nx, .int .i64 G.bad]
def beginR (h : Int) : Int := 2 + h * 256
theorem bat_0 (a b c d e f : UInt8) : bat [a, b, c, d, e, f] 0 = a.toNat := rfl
/-- A slot's sector is read as it was stored. -/
theorem slotAt_X {s : Slot} (hm : mayM s.e s.n = true) (hh : 0 ≤ s.h ∧ s.h ≤ 1) (hf : 0 ≤ s.f ∧ s.f < 16777216) (hb : 0 ≤ s.b ∧ s.b < 65536) : slotAt (slotX s) = some s := by
  have ho : openR (slotX s) = ⟨s.e, s.n, 0, 1, slotB s, 0⟩ := openR_sealB (by rw [slot_seal]; exact hm)
  have h0 : bat (slotB s) 0 = s.h := by show ((u8 s.h).toNat : Int) = _; rw [u8_toNat]; omega
  have h1 : bat (slotB s) 1 = (s.f / 2 ^ 16) % 256 := by show ((u8 (s.f / 2 ^ 16)).toNat : Int) = _; rw [u8_toNat]
  have h2 : bat (slotB s) 2 = (s.f / 2 ^ 8) % 256 := by show ((u8 (s.f / 2 ^ 8)).toNat : Int) = _; rw [u8_toNat]
  have h3 : bat (slotB s) 3 = s.f % 256 := by show ((u8 s.f).toNat : Int) = _; rw [u8_toNat]
  have h4 : bat (slotB s) 4 = (s.b / 2 ^ 8) % 256 := by show ((u8 (s.b / 2 ^ 8)).toNat : Int) = _; rw [u8_toNat]
  have h5 : bat (slotB s) 5 = s.b % 256 := by show ((u8 s.b).toNat : Int) = _; rw [u8_toNat]
  have hs : isSlot ⟨s.e, s.n, 0, 1, slotB s, 0⟩ = true := by
    unfold isSlot
    dsimp only
    rw [h0, show (slotB s).length = 6 from rfl, decide_eq_true hh.2]
    rfl
  have he : slotOf ⟨s.e, s.n, 0, 1, slotB s, 0⟩ = s := by
    unfold slotOf
    dsimp only
    rw [h0, h1, h2, h3, h4, h5]
    have e1 : s.f / 2 ^ 16 % 256 * 2 ^ 16 + s.f / 2 ^ 8 % 256 * 2 ^ 8 + s.f % 256 = s.f := by omega
    have e2 : s.b / 2 ^ 8 % 256 * 2 ^ 8 + s.b % 256 = s.b := by omega
    rw [e1, e2]
  unfold slotAt
  rw [ho, hs, if_pos rfl, he]
end Go.Proofs.YthocicjjighbnaaX
