/- Parts of a proof, joined: walks through the program's functions and their laws, in the order in which they need each other. -/
import Derived.Test.YtadgbifmiooikaaGreatPSh
import Derived.Test.YtadgbifmiooikaaGreatPSb
namespace Go.Proofs.YtadgbifmiooikaaGreatX
set_option linter.unusedVariables false
set_option linter.unusedSimpArgs false
open Go Go.RowKit
variable {w0 w : World} {I : Imm} {L : Own}
structure Slot where
  n : Int
  e : Int
  h : Int
  f : Int
  b : Int
  deriving DecidableEq
def slot0 : Slot := ⟨0, 0, 0, 0, 0⟩
def slotV (s : Slot) : List Value := [.int .i64 s.n, .int .i64 s.e, .int .i64 s.h, .int .i64 s.f, .int .i64 s.b]
def slotB (s : Slot) : List UInt8 := [u8 s.h, u8 (s.f / 2 ^ 16), u8 (s.f / 2 ^ 8), u8 s.f, u8 (s.b / 2 ^ 8), u8 s.b]
def slotX (s : Slot) : List UInt8 := sealB s.e s.n 0 1 (slotB s)
theorem slot_seal (s : Slot) : sealM s.e s.n 0 1 (slotB s) = mayM s.e s.n := by
  unfold sealM; rw [show (slotB s).length = 6 from rfl]
  simp
theorem slotX_len (s : Slot) : (slotX s).length = 32 := sealB_length (by show 6 ≤ 19; decide)
def storeR (S : DS) (s : Slot) : DS × Int :=
  if mayM s.e s.n = false then (S, 5) else if (writeR S (s.n.tmod 2) (slotX s)).2 ≠ 0 then writeR S (s.n.tmod 2) (slotX s) else flushR (writeR S (s.n.tmod 2) (slotX s)).1
def slotOf (o : OpenR) : Slot := ⟨o.q, o.e, bat o.b 0, bat o.b 1 * 2 ^ 16 + bat o.b 2 * 2 ^ 8 + bat o.b 3, bat o.b 4 * 2 ^ 8 + bat o.b 5⟩
def isSlot (o : OpenR) : Bool := decide (o.err = 0) && (decide (o.p = 0) && (decide (o.n = 1) && (decide (o.b.length = 6) && decide (bat o.b 0 ≤ 1))))
def slotAt (x : List UInt8) : Option Slot := if isSlot (openR x) then some (slotOf (openR x)) else none
def loadR (S : DS) (a : Int) : Slot × Bool × Int := if mayR S a ≠ 0 then (slot0, false, mayR S a) else match slotAt (readR S a) with
  | some s => (s, true, 0)
  | none => (slot0, false, 0)
def better : Option Slot → Option Slot → Option Slot
  | none, y => y
  | some x, none => some x
  | some x, some y => if y.n > x.n then some y else some x
def newestR (S : DS) : Slot × Int :=
  if S.down = true then (slot0, 8) else if S.secs.length < 2 then (slot0, 9) else match better (slotAt (readR S 0)) (slotAt (readR S 1)) with
  | some s => (s, 0)
  | none => (slot0, 3)
structure LG where
  s : Slot
  at_ : Int
  nx : Int
  bad : Int
def logV (d : Value) (G : LG) : List Value := [d, .int .i64 G.s.n, .int .i64 G.s.e, .int .i64 G.s.h, .int .i64 G.s.f, .int .i64 G.s.b, .int .i64 G.at_, .int .i64 G.nx, .int .i64 G.bad]
def beginR (h : Int) : Int := 2 + h * 256
theorem slotAt_X {s : Slot} (hm : mayM s.e s.n = true) (hh : 0 ≤ s.h ∧ s.h ≤ 1) (hf : 0 ≤ s.f ∧ s.f < 16777216) (hb : 0 ≤ s.b ∧ s.b < 65536) : slotAt (slotX s) = some s := by
  have ho : openR (slotX s) = ⟨s.e, s.n, 0, 1, slotB s, 0⟩ := openR_sealB (by rw [slot_seal]; exact hm)
  have h0 : bat (slotB s) 0 = s.h := by show ((u8 s.h).toNat : Int) = _; rw [u8_toNat]; omega
  have h1 : bat (slotB s) 1 = (s.f / 2 ^ 16) % 256 := by show ((u8 (s.f / 2 ^ 16)).toNat : Int) = _; rw [u8_toNat]
  have h2 : bat (slotB s) 2 = (s.f / 2 ^ 8) % 256 := by show ((u8 (s.f / 2 ^ 8)).toNat : Int) = _; rw [u8_toNat]
  have h3 : bat (slotB s) 3 = s.f % 256 := by show ((u8 s.f).toNat : Int) = _; rw [u8_toNat]
  have h4 : bat (slotB s) 4 = (s.b / 2 ^ 8) % 256 := by show ((u8 (s.b / 2 ^ 8)).toNat : Int) = _; rw [u8_toNat]
  have h5 : bat (slotB s) 5 = s.b % 256 := by show ((u8 s.b).toNat : Int) = _; rw [u8_toNat]
  have hs : isSlot ⟨s.e, s.n, 0, 1, slotB s, 0⟩ = true := by
    unfold isSlot; dsimp only; rw [h0, show (slotB s).length = 6 from rfl, decide_eq_true hh.2]
    rfl
  have he : slotOf ⟨s.e, s.n, 0, 1, slotB s, 0⟩ = s := by
    unfold slotOf; dsimp only; rw [h0, h1, h2, h3, h4, h5]
    have e1 : s.f / 2 ^ 16 % 256 * 2 ^ 16 + s.f / 2 ^ 8 % 256 * 2 ^ 8 + s.f % 256 = s.f := by omega
    have e2 : s.b / 2 ^ 8 % 256 * 2 ^ 8 + s.b % 256 = s.b := by omega
    rw [e1, e2]
  unfold slotAt; rw [ho, hs, if_pos rfl, he]
end Go.Proofs.YtadgbifmiooikaaGreatX
namespace Go.Proofs.YtadgbifmiooikaaGreatX
set_option linter.unusedVariables false
set_option linter.unusedSimpArgs false
open Go Go.RowKit Go.Proofs
set_option maxRecDepth 100000 in
set_option maxHeartbeats 1000000 in
theorem fits_spec {w0 w : World} {I : Imm} {L Ld : Own} {d : Value} {S : DS} (hd : DiskO d S Ld) (hst : St w0 w I (Ld ++ L)) :
    Calls Tryz.prog 39 #[d] w fun e w' => e = .returned (.bool (decide ((S.secs.length : Int) = 514))) ∧ St w0 w' I (Ld ++ L) := by
  refine enter Tryz.func39 rfl (N := 6) rfl rfl ?_
  simp only [zA, zB, zC, zD, zE, Nat.reduceAdd]
  have hle := Imm.le.refl I; refine zR <| zs rfl rfl <| zN <| zm rfl rfl ?_; refine RW.call rfl call40 rfl rfl (len_spec hd hst) ?_; clear hst; rintro e w ⟨rfl, hst⟩; refine ⟨_, rfl, ?_⟩; refine RW.op1 rfl (runs_eqI rfl rfl) <| zs rfl rfl <| zM <| CW.ret ?_; refine AQ.ret1 rfl rfl ?_; exact ⟨rfl, hst⟩
set_option maxRecDepth 100000 in
set_option maxHeartbeats 1000000 in
theorem begin_spec {w0 w : World} {I : Imm} {L : Own} (hst : St w0 w I L) (h : Int) (hh : 0 ≤ h ∧ h ≤ 1) :
    Calls Tryz.prog 45 #[.int .i64 h] w fun e w' => e = .returned (.int .i64 (beginR h)) ∧ St w0 w' I L := by
  refine enter Tryz.func45 rfl (N := 6) rfl rfl ?_
  simp only [zA, zB, zC, zD, zE, Nat.reduceAdd]
  have hle := Imm.le.refl I; refine zR <| zs rfl rfl <| zN <| zm rfl rfl ?_; refine RW.op1 rfl (runs_mul rfl rfl (by omega)) ?_; refine RW.op1 rfl (runs_add rfl rfl (by omega)) ?_; refine zs rfl rfl <| zM <| CW.ret ?_; refine AQ.ret1 rfl rfl ?_; exact ⟨rfl, hst⟩
set_option maxRecDepth 100000 in
set_option maxHeartbeats 1000000 in
theorem left_spec {w0 w : World} {I : Imm} {L : Own} (hst : St w0 w I L) (a h : Int) (hh : 0 ≤ h ∧ h ≤ 1) (ha : 0 ≤ a ∧ a ≤ 1000) :
    Calls Tryz.prog 118 #[.int .i64 a, .int .i64 h] w fun e w' => e = .returned (.int .i64 (beginR h + 256 - a)) ∧ St w0 w' I L := by
  have hb : beginR h = 2 + h * 256 := rfl; refine enter Tryz.func118 rfl (N := 10) rfl rfl ?_
  simp only [zA, zB, zC, zD, zE, Nat.reduceAdd]
  have hle := Imm.le.refl I; refine zR <| zs rfl rfl <| zN <| zm rfl rfl ?_; refine RW.call rfl call45 rfl rfl (begin_spec hst h hh) ?_; clear hst; rintro e w ⟨rfl, hst⟩; refine ⟨_, rfl, ?_⟩; refine RW.op1 rfl (runs_add rfl rfl (by omega)) ?_; refine zm rfl rfl ?_; refine RW.op1 rfl (runs_sub rfl rfl (by omega)) ?_; refine zs rfl rfl <| zM <| CW.ret ?_; refine AQ.ret1 rfl rfl ?_; exact ⟨rfl, hst⟩
set_option maxRecDepth 100000 in
set_option maxHeartbeats 1000000 in
theorem store_spec {w0 w : World} {I : Imm} {L Ld : Own} {d : Value} {S : DS} (hd : DiskO d S Ld) (hst : St w0 w I (Ld ++ L)) (s : Slot) (hn : i64ok s.n) (hpn : S.pend.length ≤ 1000000) :
    Calls Tryz.prog 43 #[d, .agg (slotV s).toArray] w fun e w' => ∃ I' Ld', Imm.le I I' ∧ e = .returned (.int .i64 (storeR S s).2) ∧ St w0 w' I' (Ld' ++ L) ∧ DiskO d (storeR S s).1 Ld' := by
  unfold i64ok at hn; refine enter Tryz.func43 rfl (N := 54) rfl rfl ?_
  simp only [zA, zB, zC, zD, zE, Nat.reduceAdd]
  have hle := Imm.le.refl I; refine zR ?_; refine RW.opE rfl (runs_box rfl hst) ?_; clear hst; rintro _ w ⟨b1, rfl, hst⟩; refine zs rfl rfl <| zN <| zp rfl rfl U88 rfl ti3 rfl <| zl 0 rfl sc3 rfl hst rfl rfl ?_; refine RW.op1 rfl (runs_convB (by rw [Tryz.underlying3]; rfl) Tryz.underlying5 rfl) ?_; refine zp rfl rfl U88 rfl ti3 rfl <| zl 0 rfl sc3 rfl hst rfl rfl ?_; refine RW.op1 rfl (runs_shrE (n := 16) rfl rfl (by decide)) ?_; refine RW.op1 rfl (runs_convB (by rw [Tryz.underlying3]; rfl) Tryz.underlying5 rfl) ?_; refine zp rfl rfl U88 rfl ti3 rfl <| zl 0 rfl sc3 rfl hst rfl rfl ?_; refine RW.op1 rfl (runs_shrE (n := 8) rfl rfl (by decide)) ?_; refine RW.op1 rfl (runs_convB (by rw [Tryz.underlying3]; rfl) Tryz.underlying5 rfl) ?_; refine zp rfl rfl U88 rfl ti3 rfl <| zl 0 rfl sc3 rfl hst rfl rfl ?_; refine RW.op1 rfl (runs_convB (by rw [Tryz.underlying3]; rfl) Tryz.underlying5 rfl) ?_; refine zp rfl rfl U88 rfl ti3 rfl <| zl 0 rfl sc3 rfl hst rfl rfl ?_; refine RW.op1 rfl (runs_shrE (n := 8) rfl rfl (by decide)) ?_; refine RW.op1 rfl (runs_convB (by rw [Tryz.underlying3]; rfl) Tryz.underlying5 rfl) ?_; refine zp rfl rfl U88 rfl ti3 rfl <| zl 0 rfl sc3 rfl hst rfl rfl ?_; refine RW.op1 rfl (runs_convB (by rw [Tryz.underlying3]; rfl) Tryz.underlying5 rfl) ?_; refine RW.opE rfl (runs_litB (bs := [_, _, _, _, _, _]) rfl Tryz.underlying52 ti5 (by decide) rfl rfl rfl hst) ?_; clear hst; rintro u2 w ⟨I2, hI2, hst, h2⟩; replace hle := hle.trans hI2; refine zs rfl rfl <| zN <| zp rfl rfl U88 rfl ti3 rfl <| zl 0 rfl sc3 rfl hst rfl rfl <| zp rfl rfl U88 rfl ti3 rfl <| zl 0 rfl sc3 rfl hst rfl rfl <| RW.op1 rfl (runs_buildF (cells := [_, _]) bz124 rfl rfl rfl rfl rfl) <| zm rfl rfl ?_; refine RW.call rfl call67 rfl rfl (seal_spec hst s.e s.n 0 1 h2 (by show 6 ≤ _; decide)) ?_; clear hst; rintro e w ⟨I3, vS, hI3, rfl, hst, hS⟩; replace hS := (show RdB I3 vS (if sealM s.e s.n 0 1 (slotB s) then slotX s else []) from hS); have hsm := slot_seal s; replace hsm : sealM s.e s.n 0 1 (slotB s) = mayM s.e s.n := hsm; replace h2 := h2.mono hI3; replace hle := hle.trans hI3; refine ⟨_, rfl, ?_⟩; refine zm rfl rfl <| zx rfl rfl rfl <| zx rfl rfl rfl <| zs rfl rfl <| zs rfl rfl <| zM <| CW.seq <| zR <| zm rfl rfl <| RW.op1 rfl (runs_neI rfl rfl) ?_; refine zM ?_; refine CW.cond rfl (fun hc42 => ?_) (fun hc42 => ?_)
  · have hcb42 := hc42; (try simp only [dT, dF] at hc42)
    have hm : mayM s.e s.n = false := by
      cases hm : mayM s.e s.n
      · rfl
      · exact absurd (by show (if sealM s.e s.n 0 1 (slotB s) = true then (0 : Int) else 1) = 0; rw [hsm, hm]; rfl) hc42
    refine zR <| zs rfl rfl <| zM <| CW.ret <| AQ.past_ret ?_; refine AQ.ret1 rfl rfl ?_
    have hr : storeR S s = (S, 5) := by unfold storeR; rw [if_pos hm]
    rw [hr]; exact ⟨_, Ld, hle, rfl, hst.drop1, hd⟩
  · have hcb42 := hc42; (try simp only [dT, dF] at hc42)
    have hm : mayM s.e s.n = true := by
      cases hm : mayM s.e s.n
      · exfalso
        have h : (if sealM s.e s.n 0 1 (slotB s) = true then (0 : Int) else 1) = 0 := Decidable.of_not_not hc42; rw [hsm, hm] at h; exact absurd h (by decide)
      · rfl
    rw [hsm, hm, if_pos rfl] at hS; refine CW.skip <| AQ.next <| CW.seq <| zR <| zm rfl rfl <| zp rfl rfl U88 rfl ti3 rfl <| zl 0 rfl sc3 rfl hst rfl rfl ?_; refine RW.op1 rfl (runs_rem rfl rfl (by omega)) ?_; refine zm rfl rfl ?_; refine RW.call rfl call41 rfl rfl (write_spec hd (hst.perm List.perm_middle.symm) (s.n.tmod 2) hS hpn) ?_; clear hst; rintro e w ⟨I4, Ld1, hI4, rfl, hst, hd1⟩; replace hst := hst.perm List.perm_middle; replace h2 := h2.mono hI4; replace hS := hS.mono hI4; replace hle := hle.trans hI4; refine ⟨_, rfl, ?_⟩; refine zs rfl rfl <| zN <| zm rfl rfl <| RW.op1 rfl (runs_neI rfl rfl) <| zM ?_; refine CW.cond rfl (fun hc50 => ?_) (fun hc50 => ?_)
    · have hcb50 := hc50; (try simp only [dT, dF] at hc50); refine zR <| zm rfl rfl <| zs rfl rfl <| zM <| CW.ret <| AQ.past_ret ?_; refine AQ.ret1 rfl rfl ?_
      have hr : storeR S s = writeR S (s.n.tmod 2) (slotX s) := by unfold storeR; rw [if_neg (by rw [hm]; decide), if_pos (by simpa using hc50)]
      rw [hr]; exact ⟨_, Ld1, hle, rfl, hst.drop1, hd1⟩
    · have hcb50 := hc50; (try simp only [dT, dF] at hc50); refine CW.skip <| AQ.next <| zR <| zm rfl rfl ?_; refine RW.call rfl call42 rfl rfl (flush_spec hd1 (hst.perm List.perm_middle.symm)) ?_; clear hst; rintro e w ⟨Ld2, rfl, hst, hd2⟩; replace hst := hst.perm List.perm_middle; refine ⟨_, rfl, ?_⟩; refine zs rfl rfl <| zM <| CW.ret ?_; refine AQ.ret1 rfl rfl ?_
      have hr : storeR S s = flushR (writeR S (s.n.tmod 2) (slotX s)).1 := by unfold storeR; rw [if_neg (by rw [hm]; decide), if_neg (by simpa using hc50)]
      rw [hr]; exact ⟨_, Ld2, hle, rfl, hst.drop1, hd2⟩
set_option maxRecDepth 100000 in
set_option maxHeartbeats 1000000 in
theorem room_spec {w0 w : World} {I : Imm} {L Ld : Own} {d : Value} {lb : Nat} {G : LG} (hst : St w0 w I ((lb, .cells (logV d G).toArray 92) :: (Ld ++ L))) (hh : 0 ≤ G.s.h ∧ G.s.h ≤ 1) (ha : 0 ≤ G.at_ ∧ G.at_ ≤ 1000) :
    Calls Tryz.prog 79 #[.pointer (some ⟨lb, 0, none⟩)] w fun e w' => e = .returned (.int .i64 (beginR G.s.h + 256 - G.at_)) ∧ St w0 w' I ((lb, .cells (logV d G).toArray 92) :: (Ld ++ L)) := by
  refine enter Tryz.func79 rfl (N := 13) rfl rfl ?_
  simp only [zA, zB, zC, zD, zE, Nat.reduceAdd]
  have hle := Imm.le.refl I; refine zR <| zs rfl rfl <| zM <| CW.seq ?_; refine CW.drawSt hst (.q 0 (.q 1 (.q 2 (.q 3 (.q 4 (.q 5 (.q 6 (.q 7 (.q 8 (.l 9 (.q 10 .nil))))))))))) follows (by kernel_rfl) (fun w hst => ?_); refine ym rfl rfl rfl <| yc rfl rfl rfl <| yp rfl rfl rfl U92 rfl ti3 rfl <| yl 0 rfl rfl sc3 rfl rfl rfl <| ym rfl rfl rfl <| yc rfl rfl rfl <| yp rfl rfl rfl U92 rfl ti88 rfl <| yp rfl rfl rfl U88 rfl ti3 rfl <| yl 0 rfl rfl sc3 rfl rfl rfl ?_; refine DRW.call rfl rfl call118 rfl rfl (left_spec hst G.at_ G.s.h hh ha) ?_; clear hst; rintro e w ⟨rfl, hst⟩; refine ⟨_, rfl, FSt.ofA hst (Imm.le.refl _), ?_⟩; refine ys rfl rfl rfl <| DRW.done <| AQ.next <| CW.ret ?_; refine AQ.ret1 rfl rfl ?_; exact ⟨rfl, hst⟩
theorem load_none {S : DS} {a : Int} (hm : mayR S a = 0) (h : ¬ ((openR (readR S a)).err = 0 ∧ (openR (readR S a)).p = 0 ∧ (openR (readR S a)).n = 1 ∧ (openR (readR S a)).b.length = 6 ∧ bat (openR (readR S a)).b 0 ≤ 1)) : loadR S a = (slot0, false, 0) := by
  unfold loadR slotAt isSlot; rw [if_neg (by omega), if_neg]
  simp only [Bool.and_eq_true, decide_eq_true_eq]
  exact h
theorem load_some {S : DS} {a : Int} (hm : mayR S a = 0) (h : (openR (readR S a)).err = 0 ∧ (openR (readR S a)).p = 0 ∧ (openR (readR S a)).n = 1 ∧ (openR (readR S a)).b.length = 6 ∧ bat (openR (readR S a)).b 0 ≤ 1) : loadR S a = (slotOf (openR (readR S a)), true, 0) := by
  unfold loadR slotAt isSlot; rw [if_neg (by omega), if_pos]
  simp only [Bool.and_eq_true, decide_eq_true_eq]
  exact h
set_option maxRecDepth 100000 in
set_option maxHeartbeats 1000000 in
theorem load_spec {w0 w : World} {I : Imm} {L Ld : Own} {d : Value} {S : DS} (hd : DiskO d S Ld) (hst : St w0 w I (Ld ++ L)) (at_ : Int) :
    Calls Tryz.prog 68 #[d, .int .i64 at_] w fun e w' => ∃ I', Imm.le I I' ∧ e = .returned (.tuple #[.agg (slotV (loadR S at_).1).toArray, .bool (loadR S at_).2.1, .int .i64 (loadR S at_).2.2]) ∧ St w0 w' I' (Ld ++ L) := by
  have hok : DOk S := by obtain ⟨_, _, _, _, _, _, _, _, _, hok⟩ := hd; exact hok
  refine enter Tryz.func68 rfl (N := 88) rfl rfl ?_
  simp only [zA, zB, zC, zD, zE, Nat.reduceAdd]
  have hle := Imm.le.refl I; refine zR ?_; refine RW.opE rfl (runs_alloc ti88 hst) ?_; clear hst; rintro _ w ⟨b1, rfl, hst⟩; refine zs rfl rfl <| zs rfl rfl <| zN <| zm rfl rfl <| zm rfl rfl ?_; refine RW.call rfl call109 rfl rfl (read_spec hd (hst.perm List.perm_middle.symm) at_) ?_; clear hst; rintro e w ⟨I2, vX, hI2, rfl, hst, hX⟩; replace hst := hst.perm List.perm_middle; replace hle := hle.trans hI2; refine ⟨_, rfl, ?_⟩; refine zm rfl rfl <| zx rfl rfl rfl <| zx rfl rfl rfl <| zs rfl rfl <| zs rfl rfl <| zM <| CW.seq <| zR <| zm rfl rfl <| RW.op1 rfl (runs_neI rfl rfl) ?_; refine zM ?_; refine CW.cond rfl (fun hc20 => ?_) (fun hc20 => ?_)
  · have hcb20 := hc20; (try simp only [dT, dF] at hc20)
    have hr : loadR S at_ = (slot0, false, mayR S at_) := by unfold loadR; rw [if_pos hc20]
    refine zR <| RW.op1 rfl (runs_buildF (cells := [_, _, _, _, _]) bz88 rfl rfl rfl rfl rfl) <| zm rfl rfl ?_; refine zw 0 ti88 rfl rfl hst rfl rfl rfl rfl ?_; clear hst; rintro w hst; (try simp only [sZ, sS] at hst); refine zs rfl rfl <| zs rfl rfl <| zM <| CW.ret <| AQ.past_ret ?_; refine AQ.retL (rs := [.cell 4 88, .tmp 5, .tmp 6]) (vs := [_, _, _]) rfl ⟨⟨_, rfl, hst.loadN (vs := [_, _, _, _, _]) (k := 0) ag88 ti88 rfl rfl rfl⟩, rfl, rfl, trivial⟩ (by simp) ?_; rw [hr]; exact ⟨_, hle, rfl, hst.drop1⟩
  · have hcb20 := hc20; (try simp only [dT, dF] at hc20); have hm0 : mayR S at_ = 0 := Decidable.of_not_not hc20; rw [if_pos hm0] at hX; have hlim := mayR_ok hm0; have hXl := readR_len hok hlim.2.1 hlim.2.2; refine CW.skip <| AQ.next <| zR <| zm rfl rfl ?_; refine RW.call rfl call110 rfl rfl (open_spec hst hX (by omega)) ?_; clear hst; rintro e w ⟨I4, vO, hI4, rfl, hst, hO⟩; replace hX := hX.mono hI4; replace hle := hle.trans hI4; refine ⟨_, rfl, ?_⟩; refine zm rfl rfl <| zx rfl rfl rfl <| zx rfl rfl rfl <| zx rfl rfl rfl <| zx rfl rfl rfl <| zx rfl rfl rfl ?_; refine RW.opE rfl (runs_alloc ti124 hst) ?_; clear hst; rintro _ w ⟨b5, rfl, hst⟩; refine zw 0 ti124 rfl rfl hst rfl rfl rfl rfl ?_; clear hst; rintro w hst; (try simp only [sZ, sS] at hst); refine zs rfl rfl <| zs rfl rfl <| zs rfl rfl <| zs rfl rfl <| zM <| CW.seq <| zR <| zm rfl rfl <| RW.op1 rfl (runs_neI rfl rfl) <| zm rfl rfl ?_; refine RW.split (t := 33) rfl (fun hb33 => ?_) (fun hb33 => ?_)
    · have hb33p := hb33; (try simp only [dT, dF] at hb33p); refine zG rfl rfl rfl rfl rfl rfl hb33 <| zt rfl rfl hb33 rfl <| zm rfl rfl <| zG rfl rfl rfl rfl rfl rfl rfl <| zt rfl rfl rfl rfl <| zm rfl rfl <| zH rfl rfl rfl rfl rfl rfl rfl rfl rfl <| zt rfl rfl rfl rfl <| zm rfl rfl <| zH rfl rfl rfl rfl rfl rfl rfl rfl rfl ?_; refine RW.off_guard rfl rfl rfl rfl rfl <| zt rfl rfl rfl rfl <| zM ?_; refine CW.cond_true rfl ?_; refine zR <| RW.op1 rfl (runs_buildF (cells := [_, _, _, _, _]) bz88 rfl rfl rfl rfl rfl) ?_; refine zw 1 ti88 rfl rfl hst rfl rfl rfl rfl ?_; clear hst; rintro w hst; (try simp only [sZ, sS] at hst); refine zs rfl rfl <| zs rfl rfl <| zM <| CW.ret <| AQ.past_ret ?_; refine AQ.retL (rs := [.cell 4 88, .tmp 5, .tmp 6]) (vs := [_, _, _]) rfl ⟨⟨_, rfl, hst.loadN (vs := [_, _, _, _, _]) (k := 1) ag88 ti88 rfl rfl rfl⟩, rfl, rfl, trivial⟩ (by simp) ?_; rw [load_none hm0 (by omega)]; exact ⟨_, hle, rfl, hst.drop1.drop1⟩
    · have hb33p := hb33; (try simp only [dT, dF] at hb33p); refine RW.on_guard rfl rfl rfl rfl hb33 <| zm rfl rfl <| RW.on_guard rfl rfl rfl rfl hb33 <| RW.op1 rfl (runs_neI rfl rfl) <| zn rfl rfl hb33 rfl <| zm rfl rfl ?_; refine RW.split (t := 37) rfl (fun hb37 => ?_) (fun hb37 => ?_)
      · have hb37p := hb37; (try simp only [dT, dF] at hb37p); refine zG rfl rfl rfl rfl rfl rfl hb37 <| zt rfl rfl hb37 rfl <| zm rfl rfl <| zH rfl rfl rfl rfl rfl rfl rfl rfl rfl <| zt rfl rfl rfl rfl <| zm rfl rfl <| zH rfl rfl rfl rfl rfl rfl rfl rfl rfl <| RW.off_guard rfl rfl rfl rfl rfl <| zt rfl rfl rfl rfl <| zM ?_; refine CW.cond_true rfl ?_; refine zR <| RW.op1 rfl (runs_buildF (cells := [_, _, _, _, _]) bz88 rfl rfl rfl rfl rfl) ?_; refine zw 1 ti88 rfl rfl hst rfl rfl rfl rfl ?_; clear hst; rintro w hst; (try simp only [sZ, sS] at hst); refine zs rfl rfl <| zs rfl rfl <| zM <| CW.ret <| AQ.past_ret ?_; refine AQ.retL (rs := [.cell 4 88, .tmp 5, .tmp 6]) (vs := [_, _, _]) rfl ⟨⟨_, rfl, hst.loadN (vs := [_, _, _, _, _]) (k := 1) ag88 ti88 rfl rfl rfl⟩, rfl, rfl, trivial⟩ (by simp) ?_; rw [load_none hm0 (by omega)]; exact ⟨_, hle, rfl, hst.drop1.drop1⟩
      · have hb37p := hb37; (try simp only [dT, dF] at hb37p); refine RW.on_guard rfl rfl rfl rfl hb37 <| zm rfl rfl <| RW.on_guard rfl rfl rfl rfl hb37 <| RW.op1 rfl (runs_neI rfl rfl) <| zn rfl rfl hb37 rfl <| zm rfl rfl ?_; refine RW.split (t := 41) rfl (fun hb41 => ?_) (fun hb41 => ?_)
        · have hb41p := hb41; (try simp only [dT, dF] at hb41p); refine zH rfl rfl rfl rfl rfl rfl rfl rfl hb41 <| zt rfl rfl hb41 rfl <| zm rfl rfl <| zH rfl rfl rfl rfl rfl rfl rfl rfl rfl <| RW.off_guard rfl rfl rfl rfl rfl <| zt rfl rfl rfl rfl <| zM ?_; refine CW.cond_true rfl ?_; refine zR <| RW.op1 rfl (runs_buildF (cells := [_, _, _, _, _]) bz88 rfl rfl rfl rfl rfl) ?_; refine zw 1 ti88 rfl rfl hst rfl rfl rfl rfl ?_; clear hst; rintro w hst; (try simp only [sZ, sS] at hst); refine zs rfl rfl <| zs rfl rfl <| zM <| CW.ret <| AQ.past_ret ?_; refine AQ.retL (rs := [.cell 4 88, .tmp 5, .tmp 6]) (vs := [_, _, _]) rfl ⟨⟨_, rfl, hst.loadN (vs := [_, _, _, _, _]) (k := 1) ag88 ti88 rfl rfl rfl⟩, rfl, rfl, trivial⟩ (by simp) ?_; rw [load_none hm0 (by omega)]; exact ⟨_, hle, rfl, hst.drop1.drop1⟩
        · have hb41p := hb41; (try simp only [dT, dF] at hb41p); refine RW.on_guard rfl rfl rfl rfl hb41 <| zm rfl rfl <| RW.on_guard rfl rfl rfl rfl hb41 <| RW.op1 rfl (RdL.len Tryz.underlying52 rfl hO) <| RW.on_guard rfl rfl rfl rfl hb41 <| RW.op1 rfl (runs_neI rfl rfl) <| zn rfl rfl hb41 rfl <| zm rfl rfl ?_; refine RW.split (t := 46) rfl (fun hb46 => ?_) (fun hb46 => ?_)
          · have hb46p := hb46; (try simp only [dT, dF] at hb46p); refine zH rfl rfl rfl rfl rfl rfl rfl rfl hb46 <| RW.off_guard rfl rfl rfl rfl hb46 <| zt rfl rfl hb46 rfl <| zM ?_; refine CW.cond_true rfl ?_; refine zR <| RW.op1 rfl (runs_buildF (cells := [_, _, _, _, _]) bz88 rfl rfl rfl rfl rfl) ?_; refine zw 1 ti88 rfl rfl hst rfl rfl rfl rfl ?_; clear hst; rintro w hst; (try simp only [sZ, sS] at hst); refine zs rfl rfl <| zs rfl rfl <| zM <| CW.ret <| AQ.past_ret ?_; refine AQ.retL (rs := [.cell 4 88, .tmp 5, .tmp 6]) (vs := [_, _, _]) rfl ⟨⟨_, rfl, hst.loadN (vs := [_, _, _, _, _]) (k := 1) ag88 ti88 rfl rfl rfl⟩, rfl, rfl, trivial⟩ (by simp) ?_; rw [load_none hm0 (by omega)]; exact ⟨_, hle, rfl, hst.drop1.drop1⟩
          · have hb46p := hb46; (try simp only [dT, dF] at hb46p); refine RW.on_guard rfl rfl rfl rfl hb46 <| zm rfl rfl <| RW.on_guard rfl rfl rfl rfl hb46 ?_; refine RW.op1 rfl (RdL.indexAddr Tryz.underlying52 ti5 (by decide) rfl rfl (by assumption) (by omega)) ?_; refine RW.on_guard rfl rfl rfl rfl hb46 ?_; refine RW.op1 rfl (runs_load1 sc5 rfl (hst.cell_imm (RdB.at (by assumption) (by omega) (by omega)))) ?_; refine RW.on_guard rfl rfl rfl rfl hb46 <| RW.op1 rfl (runs_gtr rfl rfl) <| zn rfl rfl hb46 rfl <| zM ?_; refine CW.cond rfl (fun hc51 => ?_) (fun hc51 => ?_)
            · have hcb51 := hc51; (try simp only [dT, dF] at hc51); refine zR <| RW.op1 rfl (runs_buildF (cells := [_, _, _, _, _]) bz88 rfl rfl rfl rfl rfl) ?_; refine zw 1 ti88 rfl rfl hst rfl rfl rfl rfl ?_; clear hst; rintro w hst; (try simp only [sZ, sS] at hst); refine zs rfl rfl <| zs rfl rfl <| zM <| CW.ret <| AQ.past_ret ?_; refine AQ.retL (rs := [.cell 4 88, .tmp 5, .tmp 6]) (vs := [_, _, _]) rfl ⟨⟨_, rfl, hst.loadN (vs := [_, _, _, _, _]) (k := 1) ag88 ti88 rfl rfl rfl⟩, rfl, rfl, trivial⟩ (by simp) ?_; rw [load_none hm0 (by omega)]; exact ⟨_, hle, rfl, hst.drop1.drop1⟩
            · have hcb51 := hc51; (try simp only [dT, dF] at hc51); refine CW.skip <| AQ.next <| CW.seq ?_; refine CW.draw (FSt w0 I4 ((b5, .cells #[.int .i64 (openR (readR S at_)).e, .int .i64 (openR (readR S at_)).q] 124) :: (Ld ++ L))) (.q 0 (.q 1 (.q 2 (.q 3 (.q 4 (.q 5 (.q 6 (.q 7 (.q 8 (.q 9 (.q 10 (.q 11 (.q 12 (.q 13 (.q 14 (.q 15 (.q 16 (.q 17 (.q 18 (.q 19 (.q 20 (.q 21 (.q 22 (.q 23 (.q 24 (.q 25 (.q 26 (.q 27 (.q 28 (.q 29 (.q 30 (.q 31 (.q 32 (.q 33 (.q 34 (.l 35 (.q 36 (.q 37 .nil)))))))))))))))))))))))))))))))))))))) follows (by kernel_rfl) ⟨_, Imm.le.refl _, hst.draw.sub ((List.sublist_cons_self _ _).cons_cons _)⟩ ?_; replace hst := hst.draw; refine yp rfl rfl rfl U124 rfl ti3 rfl <| yl 0 rfl rfl sc3 rfl rfl rfl <| yp rfl rfl rfl U124 rfl ti3 rfl <| yl 0 rfl rfl sc3 rfl rfl rfl <| ym rfl rfl rfl ?_; refine DRW.q rfl rfl (fun w' hF => RdL.indexAddr Tryz.underlying52 ti5 (by decide) rfl rfl (by assumption) (by omega)) ?_; refine DRW.q rfl rfl (FSt.load1 sc5 rfl (RdB.at (by assumption) (by omega) (by omega))) ?_; refine DRW.q rfl rfl (fun w' hF => runs_conv64 (by rw [Tryz.underlying5]; rfl) Tryz.underlying3 rfl (bat_ok _ _)) ?_; refine ym rfl rfl rfl ?_; refine DRW.q rfl rfl (fun w' hF => RdL.indexAddr Tryz.underlying52 ti5 (by decide) rfl rfl (by assumption) (by omega)) ?_; refine DRW.q rfl rfl (FSt.load1 sc5 rfl (RdB.at (by assumption) (by omega) (by omega))) ?_; refine DRW.q rfl rfl (fun w' hF => runs_conv64 (by rw [Tryz.underlying5]; rfl) Tryz.underlying3 rfl (bat_ok _ _)) ?_; refine DRW.q rfl rfl (fun w' hF => runs_shlBat (n := 16) rfl rfl (by decide)) ?_; refine ym rfl rfl rfl ?_; refine DRW.q rfl rfl (fun w' hF => RdL.indexAddr Tryz.underlying52 ti5 (by decide) rfl rfl (by assumption) (by omega)) ?_; refine DRW.q rfl rfl (FSt.load1 sc5 rfl (RdB.at (by assumption) (by omega) (by omega))) ?_; refine DRW.q rfl rfl (fun w' hF => runs_conv64 (by rw [Tryz.underlying5]; rfl) Tryz.underlying3 rfl (bat_ok _ _)) ?_; refine DRW.q rfl rfl (fun w' hF => runs_shlBat (n := 8) rfl rfl (by decide)) ?_; refine DRW.q rfl rfl (fun w' hF => runs_or3a rfl rfl) ?_; refine ym rfl rfl rfl ?_; refine DRW.q rfl rfl (fun w' hF => RdL.indexAddr Tryz.underlying52 ti5 (by decide) rfl rfl (by assumption) (by omega)) ?_; refine DRW.q rfl rfl (FSt.load1 sc5 rfl (RdB.at (by assumption) (by omega) (by omega))) ?_; refine DRW.q rfl rfl (fun w' hF => runs_conv64 (by rw [Tryz.underlying5]; rfl) Tryz.underlying3 rfl (bat_ok _ _)) ?_; refine DRW.q rfl rfl (fun w' hF => runs_or3b rfl rfl) ?_; refine ym rfl rfl rfl ?_; refine DRW.q rfl rfl (fun w' hF => RdL.indexAddr Tryz.underlying52 ti5 (by decide) rfl rfl (by assumption) (by omega)) ?_; refine DRW.q rfl rfl (FSt.load1 sc5 rfl (RdB.at (by assumption) (by omega) (by omega))) ?_; refine DRW.q rfl rfl (fun w' hF => runs_conv64 (by rw [Tryz.underlying5]; rfl) Tryz.underlying3 rfl (bat_ok _ _)) ?_; refine DRW.q rfl rfl (fun w' hF => runs_shlBat (n := 8) rfl rfl (by decide)) ?_; refine ym rfl rfl rfl ?_; refine DRW.q rfl rfl (fun w' hF => RdL.indexAddr Tryz.underlying52 ti5 (by decide) rfl rfl (by assumption) (by omega)) ?_; refine DRW.q rfl rfl (FSt.load1 sc5 rfl (RdB.at (by assumption) (by omega) (by omega))) ?_; refine DRW.q rfl rfl (fun w' hF => runs_conv64 (by rw [Tryz.underlying5]; rfl) Tryz.underlying3 rfl (bat_ok _ _)) ?_; refine DRW.q rfl rfl (fun w' hF => runs_or2 rfl rfl) ?_; refine DRW.q rfl rfl (fun w' hF => runs_buildF (cells := [_, _, _, _, _]) bz88 rfl rfl rfl rfl rfl) ?_; refine DRW.opE0 rfl (runs_storeW ti88 rfl rfl hst (k := 1) rfl rfl rfl (NoFz.zero _) rfl) ?_; clear hst; rintro w hst; (try simp only [sZ, sS] at hst)
              refine ⟨FSt.of hst (Imm.le.refl _) ((List.sublist_cons_self _ _).cons_cons _), ?_⟩; refine ys rfl rfl rfl <| ys rfl rfl rfl <| DRW.done <| AQ.next <| CW.ret ?_; refine AQ.retL (rs := [.cell 4 88, .tmp 5, .tmp 6]) (vs := [_, _, _]) rfl ⟨⟨_, rfl, hst.loadN (vs := [_, _, _, _, _]) (k := 1) ag88 ti88 rfl rfl rfl⟩, rfl, rfl, trivial⟩ (by simp) ?_; rw [load_some hm0 (by omega)]; exact ⟨_, hle, rfl, hst.drop1.drop1⟩
def bestTo (S : DS) : Nat → Option Slot
  | 0 => none
  | k + 1 => better (bestTo S k) (slotAt (readR S (k : Int)))
def bestS (o : Option Slot) : Slot := o.getD slot0
theorem newest_bad {S : DS} {k : Nat} (hk : k < 2) (h0 : ∀ j, j < k → mayR S (j : Int) = 0) (h : mayR S (k : Int) ≠ 0) : newestR S = (slot0, mayR S (k : Int)) := by
  unfold newestR; unfold mayR at h h0 ⊢
  by_cases hd : S.down = true
  · rw [if_pos hd, if_pos hd]
  · rw [if_neg hd] at h ⊢; rw [if_neg hd]
    by_cases hl : S.secs.length < 2
    · rw [if_pos hl, if_pos (Decidable.byContradiction fun hc => h (if_neg hc))]
    · exact absurd (if_neg (by omega)) h
theorem newest_end {S : DS} (h0 : ∀ j, j < 2 → mayR S ((j : Nat) : Int) = 0) : newestR S = match bestTo S 2 with
  | some s => (s, 0)
  | none => (slot0, 3) := by
  have h1 := mayR_ok (h0 1 (by decide)); unfold newestR; rw [if_neg (by rw [h1.1]; decide), if_neg (by omega)]
  have : bestTo S 2 = better (slotAt (readR S 0)) (slotAt (readR S 1)) := by
    show better (better none (slotAt (readR S 0))) (slotAt (readR S 1)) = _
    rfl
  rw [this]
  try (cases better (slotAt (readR S 0)) (slotAt (readR S 1)) <;> rfl)
theorem load_er {S : DS} {a : Int} : (loadR S a).2.2 = mayR S a := by
  unfold loadR
  split
  · rfl
  · cases slotAt (readR S a) <;> (show 0 = mayR S a; omega)
theorem load_ok {S : DS} {a : Int} (hm : mayR S a = 0) : loadR S a = (bestS (slotAt (readR S a)), (slotAt (readR S a)).isSome, 0) := by
  unfold loadR; rw [if_neg (by omega)]
  cases slotAt (readR S a) <;> rfl
theorem better_take {x y : Option Slot} (h : y.isSome = true) (h2 : x.isSome = false ∨ (bestS x).n < (bestS y).n) : bestS (better x y) = bestS y ∧ (better x y).isSome = true := by
  cases x with
  | none => exact ⟨rfl, h⟩
  | some a => cases y with
    | none => cases h
    | some b =>
      have : a.n < b.n := by
        rcases h2 with h2 | h2
        · cases h2
        · exact h2
      show bestS (if b.n > a.n then some b else some a) = b ∧ _
      rw [show better (some a) (some b) = some b from if_pos this]; exact ⟨if_pos this ▸ rfl, rfl⟩
theorem better_keep {x y : Option Slot} (h : y.isSome = false ∨ x.isSome = true ∧ ¬ (bestS x).n < (bestS y).n) : better x y = x := by
  cases x with
  | none => cases y with
    | none => rfl
    | some b => rcases h with h | h <;> cases h; rename_i h1 h2; cases h1
  | some a => cases y with
    | none => rfl
    | some b =>
      rcases h with h | h
      · cases h
      · exact if_neg h.2
set_option maxRecDepth 100000 in
set_option maxHeartbeats 1000000 in
theorem newest_spec {w0 w : World} {I : Imm} {L Ld : Own} {d : Value} {S : DS} (hd : DiskO d S Ld) (hst : St w0 w I (Ld ++ L)) :
    Calls Tryz.prog 44 #[d] w fun e w' => ∃ I', Imm.le I I' ∧ e = .returned (.tuple #[.agg (slotV (newestR S).1).toArray, .int .i64 (newestR S).2]) ∧ St w0 w' I' (Ld ++ L) := by
  refine enter Tryz.func44 rfl (N := 42) rfl rfl ?_
  simp only [zA, zB, zC, zD, zE, Nat.reduceAdd]
  have hle := Imm.le.refl I; refine zR ?_; refine RW.opE rfl (runs_alloc ti88 hst) ?_; clear hst; rintro _ w ⟨b1, rfl, hst⟩; refine zs rfl rfl <| zN ?_; refine RW.opE rfl (runs_alloc ti88 hst) ?_; clear hst; rintro _ w ⟨b2, rfl, hst⟩; refine zN <| zs rfl rfl <| zM <| CW.seq <| zR <| zm rfl rfl <| zM <| CW.block ?_; refine CW.loop (Nat × Imm) (fun x w => I.le x.2 ∧ St w0 w x.2 ((b2, .cells (slotV (bestS (bestTo S x.1))).toArray 88) :: (b1, .cells (slotV slot0).toArray 88) :: (Ld ++ L)) ∧ x.1 ≤ 2 ∧ ∀ j, j < x.1 → mayR S (j : Int) = 0) (fun x => [(0, d), (2, .pointer (some ⟨b1, 0, none⟩)), (4, .pointer (some ⟨b2, 0, none⟩)), (5, .bool (bestTo S x.1).isSome), (10, .int .i64 (x.1 : Int))]) (fun x => 2 - x.1) ⟨(0, _), ⟨hle, hst, Nat.zero_le _, fun j h => absurd h (Nat.not_lt_zero _)⟩, ⟨rfl, rfl, rfl, rfl, rfl, trivial⟩⟩ ?_; clear hle hst; rintro ⟨k, IK⟩ w ⟨hle, hst, hk, h0⟩; dsimp only at hle hst hk h0 ⊢; refine zR <| RW.op1 rfl (runs_lss rfl rfl) <| zM <| CW.seq ?_; refine CW.cond rfl (fun hc11 => ?_) (fun hc11 => ?_)
  · have hcb11 := hc11; (try simp only [dT, dF] at hc11); refine CW.skip <| AQ.next <| CW.seq <| CW.block <| zR <| zm rfl rfl <| zs rfl rfl <| zN <| zm rfl rfl <| zm rfl rfl ?_; refine RW.call rfl call68 rfl rfl (load_spec hd (hst.perm (perm_two2 _ _ Ld L)) (k : Int)) ?_; clear hst; rintro e w ⟨I3, hI3, rfl, hst⟩; replace hst := hst.perm (perm_two2 _ _ Ld L).symm; replace hle := hle.trans hI3; refine ⟨_, rfl, ?_⟩; refine zm rfl rfl <| zx rfl rfl rfl <| zx rfl rfl rfl <| zx rfl rfl rfl ?_; refine RW.opE rfl (runs_alloc ti88 hst) ?_; clear hst; rintro _ w ⟨b4, rfl, hst⟩; refine zw 0 ti88 rfl rfl hst rfl rfl rfl rfl ?_; clear hst; rintro w hst; (try simp only [sZ, sS] at hst); refine zs rfl rfl <| zs rfl rfl <| zM <| CW.seq <| zR <| zm rfl rfl <| RW.op1 rfl (runs_neI rfl rfl) <| zM ?_; refine CW.cond rfl (fun hc21 => ?_) (fun hc21 => ?_)
    · have hcb21 := hc21; (try simp only [dT, dF] at hc21)
      have hm : mayR S (k : Int) ≠ 0 := by rw [← load_er]; exact hc21
      have hr := newest_bad (by omega) h0 hm; rw [load_er]; refine zR <| RW.op1 rfl (runs_buildF (cells := [_, _, _, _, _]) bz88 rfl rfl rfl rfl rfl) <| zm rfl rfl ?_; refine zw 2 ti88 rfl rfl hst rfl rfl rfl rfl ?_; clear hst; rintro w hst; (try simp only [sZ, sS] at hst); refine zs rfl rfl <| zM <| CW.ret <| AQ.past_ret <| AQ.block_ret <| AQ.past_ret <| AQ.past_ret <| AQ.block_ret <| AQ.past_ret ?_; refine AQ.retL (rs := [.cell 2 88, .tmp 3]) (vs := [_, _]) rfl ⟨⟨_, rfl, hst.loadN (vs := [_, _, _, _, _]) (k := 2) ag88 ti88 rfl rfl rfl⟩, rfl, trivial⟩ (by simp) ?_; rw [hr]; exact ⟨_, hle, rfl, hst.drop1.drop1.drop1⟩
    · have hcb21 := hc21; (try simp only [dT, dF] at hc21)
      have hm0 : mayR S (k : Int) = 0 := by rw [← load_er]; exact Decidable.of_not_not hc21
      have hlo := load_ok hm0; rw [hlo] at hst ⊢
      have h01 : ∀ j, j < k + 1 → mayR S (j : Int) = 0 := fun j hj => by
        by_cases h : j < k
        · exact h0 j h
        · obtain rfl : j = k := by omega
          exact hm0
      refine CW.skip <| AQ.next <| zR <| zm rfl rfl <| zm rfl rfl ?_; refine RW.split (t := 25) rfl (fun hb25 => ?_) (fun hb25 => ?_)
      · have hb25p := hb25; (try simp only [dT, dF] at hb25p); refine RW.on_guard rfl rfl rfl rfl hb25 <| zm rfl rfl <| RW.on_guard rfl rfl rfl rfl hb25 <| RW.op1 rfl (runs_not rfl) <| RW.on_guard rfl rfl rfl rfl hb25 <| zm rfl rfl ?_; refine RW.split (t := 28) rfl (fun hb28 => ?_) (fun hb28 => ?_)
        · have hb28p := hb28; (try simp only [dT, dF] at hb28p); refine zH rfl rfl rfl rfl rfl rfl rfl rfl hb28 <| zG rfl rfl rfl rfl rfl rfl hb28 <| RW.on_guard rfl rfl rfl rfl hb25 <| zt rfl rfl hb28 rfl <| zt rfl rfl hb25 rfl <| zM ?_; refine CW.cond_true rfl ?_; refine CW.region ?_; refine RW.op1 rfl (runs_loadN (vs := [_, _, _, _, _]) ag88 ti88 rfl hst (k := 0) rfl rfl rfl) ?_; refine zw 1 ti88 rfl rfl hst rfl rfl rfl rfl ?_; clear hst; rintro w hst; (try simp only [sZ, sS] at hst); refine zs rfl rfl <| RW.done <| AQ.block_normal <| AQ.next <| CW.region ?_; refine RW.op1 rfl (runs_add rfl rfl (by omega)) ?_; refine zm rfl rfl <| RW.done ?_; have hb := better_take (x := bestTo S k) hb25 (.inl (by simpa using hb28))
          exact AQ.again (x := (k, IK)) (k + 1, _) ⟨hle, by
            show St _ _ _ ((b2, .cells (slotV (bestS (better (bestTo S k) (slotAt (readR S (k : Int)))))).toArray _) :: _)
            rw [hb.1]
            exact hst.drop1, by dsimp only; omega, h01⟩ ⟨rfl, rfl, rfl, by
            show _ = some (Value.bool (better (bestTo S k) (slotAt (readR S (k : Int)))).isSome)
            rw [hb.2]
            rfl, rfl, trivial⟩ (by dsimp only; omega)
        · have hb28p := hb28; (try simp only [dT, dF] at hb28p); refine RW.on_guard rfl rfl rfl rfl hb28 <| zp rfl rfl U88 rfl ti3 rfl <| RW.on_guard rfl rfl rfl rfl hb28 <| zl 0 rfl sc3 rfl hst rfl rfl <| RW.on_guard rfl rfl rfl rfl hb28 <| zp rfl rfl U88 rfl ti3 rfl <| RW.on_guard rfl rfl rfl rfl hb28 <| zl 1 rfl sc3 rfl hst rfl rfl <| RW.on_guard rfl rfl rfl rfl hb28 <| RW.op1 rfl (runs_gtr rfl rfl) ?_; refine RW.on_guard rfl rfl rfl rfl hb25 <| zn rfl rfl hb28 rfl <| zt rfl rfl hb25 rfl <| zM ?_; refine CW.cond rfl (fun hc35 => ?_) (fun hc35 => ?_)
          · have hcb35 := hc35; (try simp only [dT, dF] at hc35); refine CW.region ?_; refine RW.op1 rfl (runs_loadN (vs := [_, _, _, _, _]) ag88 ti88 rfl hst (k := 0) rfl rfl rfl) ?_; refine zw 1 ti88 rfl rfl hst rfl rfl rfl rfl ?_; clear hst; rintro w hst; (try simp only [sZ, sS] at hst); refine zs rfl rfl <| RW.done <| AQ.block_normal <| AQ.next <| CW.region ?_; refine RW.op1 rfl (runs_add rfl rfl (by omega)) ?_; refine zm rfl rfl <| RW.done ?_; have hb := better_take (x := bestTo S k) hb25 (.inr (by simpa using hc35))
            exact AQ.again (x := (k, IK)) (k + 1, _) ⟨hle, by
              show St _ _ _ ((b2, .cells (slotV (bestS (better (bestTo S k) (slotAt (readR S (k : Int)))))).toArray _) :: _)
              rw [hb.1]
              exact hst.drop1, by dsimp only; omega, h01⟩ ⟨rfl, rfl, rfl, by
              show _ = some (Value.bool (better (bestTo S k) (slotAt (readR S (k : Int)))).isSome)
              rw [hb.2]
              rfl, rfl, trivial⟩ (by dsimp only; omega)
          · have hcb35 := hc35; (try simp only [dT, dF] at hc35); refine CW.skip <| AQ.block_normal <| AQ.next <| CW.region ?_; refine RW.op1 rfl (runs_add rfl rfl (by omega)) ?_; refine zm rfl rfl <| RW.done ?_; have hb := better_keep (x := bestTo S k) (y := slotAt (readR S (k : Int))) (.inr ⟨by simpa using hb28, by simpa using hc35⟩)
            exact AQ.again (x := (k, IK)) (k + 1, _) ⟨hle, by
              show St _ _ _ ((b2, .cells (slotV (bestS (better (bestTo S k) (slotAt (readR S (k : Int)))))).toArray _) :: _)
              rw [hb]
              exact hst.drop1, by dsimp only; omega, h01⟩ ⟨rfl, rfl, rfl, by
              show _ = some (Value.bool (better (bestTo S k) (slotAt (readR S (k : Int)))).isSome)
              rw [hb]
              rfl, rfl, trivial⟩ (by dsimp only; omega)
      · have hb25p := hb25; (try simp only [dT, dF] at hb25p); refine zH rfl rfl rfl rfl rfl rfl rfl rfl hb25 ?_; refine RW.off_undef rfl rfl rfl rfl ?_; refine RW.off_undef rfl rfl rfl rfl ?_; refine RW.off_undef rfl rfl rfl rfl ?_; refine RW.off_undef rfl rfl rfl rfl ?_; refine RW.off_undef rfl rfl rfl rfl ?_; refine RW.off_guard rfl rfl rfl rfl hb25 <| zn rfl rfl hb25 rfl <| zM ?_; refine CW.cond_false rfl ?_; refine CW.skip <| AQ.block_normal <| AQ.next <| CW.region ?_; refine RW.op1 rfl (runs_add rfl rfl (by omega)) ?_; refine zm rfl rfl <| RW.done ?_; have hb := better_keep (x := bestTo S k) (y := slotAt (readR S (k : Int))) (.inl hb25)
        exact AQ.again (x := (k, IK)) (k + 1, _) ⟨hle, by
          show St _ _ _ ((b2, .cells (slotV (bestS (better (bestTo S k) (slotAt (readR S (k : Int)))))).toArray _) :: _)
          rw [hb]
          exact hst.drop1, by dsimp only; omega, h01⟩ ⟨rfl, rfl, rfl, by
          show _ = some (Value.bool (better (bestTo S k) (slotAt (readR S (k : Int)))).isSome)
          rw [hb]
          rfl, rfl, trivial⟩ (by dsimp only; omega)
  · have hcb11 := hc11; (try simp only [dT, dF] at hc11); refine CW.exit ?_; refine AQ.past_exit <| AQ.past_exit <| AQ.block_hit <| AQ.next <| CW.seq <| zR <| zm rfl rfl <| RW.op1 rfl (runs_not rfl) <| zM ?_; refine CW.cond rfl (fun hc39 => ?_) (fun hc39 => ?_)
    · have hcb39 := hc39; (try simp only [dT, dF] at hc39); have h0n := newest_end (S := S) (fun j hj => h0 j (by omega))
      obtain rfl : k = 2 := by omega
      refine zR <| RW.op1 rfl (runs_buildF (cells := [_, _, _, _, _]) bz88 rfl rfl rfl rfl rfl) ?_; refine zw 1 ti88 rfl rfl hst rfl rfl rfl rfl ?_; clear hst; rintro w hst; (try simp only [sZ, sS] at hst); refine zs rfl rfl <| zM <| CW.ret <| AQ.past_ret ?_; refine AQ.retL (rs := [.cell 2 88, .tmp 3]) (vs := [_, _]) rfl ⟨⟨_, rfl, hst.loadN (vs := [_, _, _, _, _]) (k := 1) ag88 ti88 rfl rfl rfl⟩, rfl, trivial⟩ (by simp) ?_
      have hno : newestR S = (slot0, 3) := by
        rw [h0n]
        cases hb : bestTo S 2 with
        | none => rfl
        | some s => rw [hb] at hc39; cases hc39
      rw [hno]; exact ⟨_, hle, rfl, hst.drop1.drop1⟩
    · have hcb39 := hc39; (try simp only [dT, dF] at hc39); have h0n := newest_end (S := S) (fun j hj => h0 j (by omega))
      obtain rfl : k = 2 := by omega
      refine CW.skip <| AQ.next <| zR ?_; refine RW.op1 rfl (runs_loadN (vs := [_, _, _, _, _]) ag88 ti88 rfl hst (k := 0) rfl rfl rfl) ?_; refine zw 1 ti88 rfl rfl hst rfl rfl rfl rfl ?_; clear hst; rintro w hst; (try simp only [sZ, sS] at hst); refine zs rfl rfl <| zM <| CW.ret ?_; refine AQ.retL (rs := [.cell 2 88, .tmp 3]) (vs := [_, _]) rfl ⟨⟨_, rfl, hst.loadN (vs := [_, _, _, _, _]) (k := 1) ag88 ti88 rfl rfl rfl⟩, rfl, trivial⟩ (by simp) ?_
      have hno : newestR S = (bestS (bestTo S 2), 0) := by
        rw [h0n]
        cases hb : bestTo S 2 with
        | none => rw [hb] at hc39; cases hc39
        | some s => rfl
      rw [hno]; exact ⟨_, hle, rfl, hst.drop1.drop1⟩
end Go.Proofs.YtadgbifmiooikaaGreatX
namespace Go.Proofs.YtadgbifmiooikaaGreatX
set_option linter.unusedVariables false
set_option linter.unusedSimpArgs false
open Go Go.RowKit
variable {w0 w : World} {I : Imm} {L : Own} {P : Program} {l : Env} {ty : TypeId}
def GrowR (I : Imm) (e : TypeId) (v : Value) (bss : List (List UInt8)) (Lv : Own) : Prop :=
  ∃ vs : List Value, Grow e 1 v vs.length vs Lv ∧ vs.length = bss.length ∧ ∀ (i : Nat) (u : Value) (b : List UInt8), vs[i]? = some u → bss[i]? = some b → RdB I u b
theorem GrowR.mono {I' : Imm} {e : TypeId} {v : Value} {bss : List (List UInt8)} {Lv : Own} (h : GrowR I e v bss Lv) (hI : I.le I') : GrowR I' e v bss Lv :=
  let ⟨vs, h1, h2, h3⟩ := h
  ⟨vs, h1, h2, fun i u b h4 h5 => RdL.mono hI (h3 i u b h4 h5)⟩
theorem GrowR.nil (e : TypeId) : GrowR I e (.slice none 0 0) [] [] := ⟨[], Grow.nil e 1, rfl, fun i u b h => by simp at h⟩
theorem GrowR.freeze {e : TypeId} {v : Value} {bss : List (List UInt8)} {Lv : Own} (hg : GrowR I e v bss Lv) (h : St w0 w I (Lv ++ L)) : ∃ I' vs, I.le I' ∧ St w0 w I' L ∧ RdR I' v vs bss := by
  obtain ⟨vs, h1, h2, h3⟩ := hg; obtain ⟨I', h4, h5, h6⟩ := h1.freeze h; exact ⟨I', vs, h4, h5, h6, h2, fun i u b h7 h8 => RdL.mono h4 (h3 i u b h7 h8)⟩
theorem rows_snoc {vs : List Value} {bss : List (List UInt8)} {c : Value} {b : List UInt8} (hl : vs.length = bss.length) (h : ∀ (i : Nat) (u : Value) (b : List UInt8), vs[i]? = some u → bss[i]? = some b → RdB I u b) (hc : RdB I c b) :
    ∀ (i : Nat) (u : Value) (d : List UInt8), (vs ++ [c])[i]? = some u → (bss ++ [b])[i]? = some d → RdB I u d := by
  intro i u d h1 h2
  by_cases hi : i < vs.length
  · rw [List.getElem?_append_left hi] at h1; rw [List.getElem?_append_left (by omega)] at h2; exact h i u d h1 h2
  · rw [List.getElem?_append_right (by omega)] at h1; rw [List.getElem?_append_right (by omega)] at h2; have h3 := (List.getElem?_eq_some_iff.1 h1).1
    have h4 : i - vs.length = 0 := by simp at h3; omega
    rw [h4] at h1; rw [show i - bss.length = 0 by omega] at h2
    simp at h1 h2
    subst h1 h2; exact hc
theorem runs_appendRow {t e : TypeId} {z : Value} {bytes : Nat} (ht : P.underlying t = some (.slice e)) (he : TI P e z 1 bytes) (hz : z.cells.size = 1) {x y : Operand} {v u c : Value} {bss : List (List UInt8)} {b : List UInt8} {Lv : Own} (hx : ev l x = some v) (hy : ev l y = some u)
    (hst : St w0 w I (Lv ++ L)) (hg : GrowR I e v bss Lv) (hr : RdL I 1 u 1 [c]) (hc : RdB I c b) (hb : (bss.length + 1) * bytes ≤ 140737488355328) (hmax : bss.length + 1 ≤ maxLen) :
    ∃ v' w', Runs P (.call ⟨.builtin .append, #[x, y], #[t, t]⟩) ty l w (.value v') w' ∧ ∃ Lv', St w0 w' I (Lv' ++ L) ∧ GrowR I e v' (bss ++ [b]) Lv' := by
  obtain ⟨vs, h1, h2, h3⟩ := hg; obtain ⟨v', w', h4, Lv', h5, h6⟩ := runs_appendR (ty := ty) ht he hz (by decide) hx hy hst h1 hr (by rw [h2]; exact hb) (by rw [h2]; exact hmax); exact ⟨v', w', h4, Lv', h5, vs ++ [c], by simpa using h6, by simp [h2], rows_snoc h2 h3 hc⟩
end Go.Proofs.YtadgbifmiooikaaGreatX
namespace Go.Proofs.YtadgbifmiooikaaGreatX
set_option linter.unusedVariables false
set_option linter.unusedSimpArgs false
open Go Go.RowKit Go.Proofs
theorem openR_rng (s : List UInt8) : 0 ≤ (openR s).e ∧ (openR s).e < 65536 ∧ 0 ≤ (openR s).q ∧ (openR s).q < 16777216 := by
  have h0 := bat_lt s 0; have h1 := bat_lt s 1; have h2 := bat_lt s 2; have h3 := bat_lt s 3; have h4 := bat_lt s 4; unfold openR epochOf seqOf
  split
  · dsimp only; omega
  · dsimp only; omega
theorem frr_ok {S : DS} (hok : DOk S) {at_ end_ me mq next : Int} {b : List UInt8} (h : FrR S at_ end_ (me, mq, b, next, 0)) : 0 ≤ at_ ∧ at_ < next ∧ next ≤ end_ ∧ end_ ≤ S.secs.length ∧ 0 ≤ mq ∧ mq < 16777216 ∧ 0 ≤ me ∧ me < 65536 ∧ b.length ≤ 8160 := by
  unfold FrR at h
  split at h
  · simp at h
  · rename_i hr
    have h0 : 0 ≤ at_ ∧ at_ < end_ ∧ end_ ≤ S.secs.length := by omega
    obtain ⟨ge, gq, gb, parts, ger, hg, h⟩ := h; have hl := gather_len hok h0 hg; unfold readEnd at h
    split at h
    · rename_i he
      simp only [Prod.mk.injEq] at h
      exact absurd h.2.2.2.2.symm he
    · rename_i he
      have he0 : ger = 0 := Decidable.of_not_not he
      split at h
      · simp at h
      · simp only [Prod.mk.injEq] at h
        obtain ⟨rfl, rfl, rfl, rfl, _⟩ := h
        rcases hg with ⟨_, _, _, _, _, h⟩ | ⟨_, ⟨n, h1, h2, h3, h4, h5, h6, h7, h8⟩ | ⟨k, _, _, _, _, _, _, _, h8⟩⟩
        · omega
        · have hb := (h3 (n - 1) (by omega)).1; have hq := openR_rng (readR S (at_ + ((0 : Nat) : Int))); rw [show openR (readR S (at_ + ((0 : Nat) : Int))) = oAt S at_ 0 from rfl, ← h4, ← h5] at hq; rw [List.length_drop]; omega
        · omega
inductive Recs (S : DS) (end_ e : Int) : Int → Int → Int → List (List UInt8) → Int → Int → Prop
  | stop {least at_ nx me mq next er : Int} {b : List UInt8} : FrR S at_ end_ (me, mq, b, next, er) → (er ≠ 0 ∨ mq ≠ nx ∨ me < least ∨ e < me) → Recs S end_ e least at_ nx [] at_ nx
  | step {least at_ nx me next a n : Int} {b : List UInt8} {bs : List (List UInt8)} : FrR S at_ end_ (me, nx, b, next, 0) → least ≤ me → me ≤ e → Recs S end_ e me next (nx + 1) bs a n → Recs S end_ e least at_ nx (b :: bs) a n
def LG.to (G : LG) (a n : Int) : LG := { G with at_ := a, nx := n }
theorem perm_out {α : Type} (x : α) (A B C : List α) : (x :: (A ++ (B ++ C))).Perm (B ++ (x :: (A ++ C))) := by
  refine List.Perm.trans ?_ List.perm_middle.symm; refine List.Perm.cons x ?_; rw [← List.append_assoc, ← List.append_assoc]; exact List.perm_append_comm.append_right C
theorem perm_out2 {α : Type} (x y : α) (A B C : List α) : (x :: y :: (A ++ (B ++ C))).Perm (B ++ (x :: y :: (A ++ C))) := by
  refine List.Perm.trans ((perm_out y A B C).cons x) ?_; exact List.perm_middle.symm
set_option maxRecDepth 100000 in
set_option maxHeartbeats 1000000 in
theorem records_spec {w0 w : World} {I : Imm} {L Ld : Own} {d : Value} {S : DS} {lb : Nat} {G : LG} (hd : DiskO d S Ld) (hst : St w0 w I ((lb, .cells (logV d G).toArray 92) :: (Ld ++ L))) (hh : 0 ≤ G.s.h ∧ G.s.h ≤ 1) (ha : 0 ≤ G.at_ ∧ G.at_ ≤ 600) (hn : 0 ≤ G.nx ∧ G.nx ≤ 16777216) :
    Calls Tryz.prog 46 #[.pointer (some ⟨lb, 0, none⟩)] w fun e w' => ∃ I' v' vs bs a n, Imm.le I I' ∧ e = .returned v' ∧ St w0 w' I' ((lb, .cells (logV d (G.to a n)).toArray 92) :: (Ld ++ L)) ∧ RdR I' v' vs bs ∧ Recs S (beginR G.s.h + 256) G.s.e G.s.b G.at_ G.nx bs a n := by
  have hok : DOk S := by obtain ⟨_, _, _, _, _, _, _, _, _, hok⟩ := hd; exact hok
  have hsl := hok.1; have hbe : beginR G.s.h = 2 + G.s.h * 256 := rfl; refine enter Tryz.func46 rfl (N := 82) rfl rfl ?_
  simp only [zA, zB, zC, zD, zE, Nat.reduceAdd]
  have hle := Imm.le.refl I; refine zR <| zs rfl rfl <| zN <| zs rfl rfl <| zN <| zm rfl rfl <| RW.op1 rfl (runs_nilCheck rfl) <| zp rfl rfl U92 rfl ti88 rfl <| zp rfl rfl U88 rfl ti3 rfl <| zl 0 rfl sc3 rfl hst rfl rfl ?_; refine zs rfl rfl <| zM <| CW.block ?_; refine CW.loop (List (List UInt8) × Int × Int × Int × Imm × Value × Own) (fun x w => I.le x.2.2.2.2.1 ∧ St w0 w x.2.2.2.2.1 ((lb, .cells (logV d (G.to x.2.2.1 x.2.2.2.1)).toArray 92) :: (x.2.2.2.2.2.2 ++ (Ld ++ L))) ∧ GrowR x.2.2.2.2.1 52 x.2.2.2.2.2.1 x.1 x.2.2.2.2.2.2 ∧ (∀ bs a n, Recs S (beginR G.s.h + 256) G.s.e x.2.1 x.2.2.1 x.2.2.2.1 bs a n → Recs S (beginR G.s.h + 256) G.s.e G.s.b G.at_ G.nx (x.1 ++ bs) a n) ∧ (0 ≤ x.2.2.1 ∧ x.2.2.1 ≤ 600 ∧ 0 ≤ x.2.2.2.1 ∧ x.2.2.2.1 ≤ 16777216 ∧ (x.1.length : Int) ≤ x.2.2.1)) (fun x => [(0, .pointer (some ⟨lb, 0, none⟩)), (3, x.2.2.2.2.2.1), (4, .int .i64 x.2.1)]) (fun x => (1000 - x.2.2.1).toNat) ⟨([], G.s.b, G.at_, G.nx, _, _, []), ⟨hle, hst, GrowR.nil _, fun bs a n h => h, ha.1, ha.2, hn.1, hn.2, by show ((0 : Nat) : Int) ≤ G.at_; omega⟩, ⟨rfl, rfl, rfl, trivial⟩⟩ ?_; clear hle hst; rintro ⟨done, least, at1, nx1, IK, vo, Lo⟩ w ⟨hle, hst, hgr, hrec, hb1⟩; dsimp only at hle hst hgr hrec hb1 ⊢; refine CW.block <| CW.seq ?_; refine CW.cut (Imm × Value × List UInt8 × Int × Int × Int × Int × Nat) (fun y w => I.le y.1 ∧ St w0 w y.1 ((y.2.2.2.2.2.2.2, .cells #[.int .i64 y.2.2.2.1, .int .i64 y.2.2.2.2.1] 124) :: (lb, .cells (logV d (G.to at1 nx1)).toArray 92) :: (Lo ++ (Ld ++ L))) ∧ GrowR y.1 52 vo done Lo ∧ RdB y.1 y.2.1 y.2.2.1 ∧ FrR S at1 (beginR G.s.h + 256) (y.2.2.2.1, y.2.2.2.2.1, y.2.2.1, y.2.2.2.2.2.1, y.2.2.2.2.2.2.1)) (fun y => [(0, .pointer (some ⟨lb, 0, none⟩)), (3, vo), (4, .int .i64 least), (5, .pointer (some ⟨y.2.2.2.2.2.2.2, 0, none⟩)), (6, y.2.1), (7, .int .i64 y.2.2.2.2.2.1), (8, .int .i64 y.2.2.2.2.2.2.1)]) ?_ ?_
  ·
    refine CW.drawSt hst (.q 0 (.q 1 (.q 2 (.q 3 (.q 4 (.q 5 (.q 6 (.q 7 (.q 8 (.q 9 (.q 10 (.q 11 (.q 12 (.fork (.l 13 (.q 14 (.fork (.l 15 (.q 16 (.q 17 (.q 18 (.q 19 (.q 20 (.l 21 (.l 22 (.q 23 (.q 24 (.q 25 .nil))))))))))) (.l 21 (.l 15 (.q 16 (.q 17 (.q 18 (.q 19 (.q 20 (.l 22 (.q 23 (.q 24 (.q 25 .nil)))))))))))))) (.l 21 (.l 13 (.q 14 (.l 15 (.q 16 (.q 17 (.q 18 (.q 19 (.q 20 (.l 22 (.q 23 (.q 24 (.q 25 .nil))))))))))))))))))))))))))) follows (by kernel_rfl) (fun w hst => ?_); refine ym rfl rfl rfl <| yc rfl rfl rfl <| yp rfl rfl rfl U92 rfl ti23 rfl <| yl 0 rfl rfl sc23 rfl rfl rfl <| ym rfl rfl rfl <| yc rfl rfl rfl <| yp rfl rfl rfl U92 rfl ti3 rfl <| yl 0 rfl rfl sc3 rfl rfl rfl <| ym rfl rfl rfl <| yc rfl rfl rfl ?_; refine yp rfl rfl rfl U92 rfl ti88 rfl <| yp rfl rfl rfl U88 rfl ti3 rfl <| yl 0 rfl rfl sc3 rfl rfl rfl ?_; refine DRW.fork ?_ ?_
    · refine DRW.call rfl rfl call45 rfl rfl (begin_spec hst G.s.h hh) ?_; clear hst; rintro e w ⟨rfl, hst⟩; refine ⟨_, rfl, FSt.ofA hst (Imm.le.refl _), ?_⟩; refine DRW.q rfl rfl (fun w' hF => runs_add rfl rfl (by omega)) ?_; refine DRW.fork ?_ ?_
      · refine DRW.call rfl rfl call69 rfl rfl (fread_spec hd (hst.perm (perm_out _ Lo Ld L)) at1 (beginR G.s.h + 256)) ?_; clear hst; rintro e w ⟨I2, vR, me, mq, rb, nxt, er, hI2, rfl, hst, hrb, hfr⟩; replace hst := hst.perm (perm_out _ Lo Ld L).symm; replace hgr := hgr.mono hI2; replace hle := hle.trans hI2; refine ⟨_, rfl, FSt.ofA hst hI2, ?_⟩; refine ym rfl rfl rfl ?_; refine DRW.q rfl rfl (fun w' hF => runs_extract rfl rfl) ?_; refine DRW.q rfl rfl (fun w' hF => runs_extract rfl rfl) ?_; refine DRW.q rfl rfl (fun w' hF => runs_extract rfl rfl) ?_; refine DRW.q rfl rfl (fun w' hF => runs_extract rfl rfl) ?_; refine DRW.opE rfl rfl (runs_alloc ti124 hst) ?_; clear hst; rintro _ w ⟨b3, rfl, hst⟩; refine ⟨FSt.ofA hst hI2, ?_⟩; refine DRW.opE0 rfl (runs_storeW ti124 rfl rfl hst (k := 0) rfl rfl rfl (NoFz.zero _) rfl) ?_; clear hst; rintro w hst; (try simp only [sZ, sS] at hst); refine ⟨FSt.ofA hst hI2, ?_⟩; refine ys rfl rfl rfl <| ys rfl rfl rfl <| ys rfl rfl rfl <| DRW.done ?_; exact AQ.meet (_, _, rb, me, mq, nxt, er, _) ⟨hle, hst, hgr, hrb, hfr⟩ ⟨rfl, rfl, rfl, rfl, rfl, rfl, rfl, trivial⟩
      refine DRW.opE rfl rfl (runs_alloc ti124 hst) ?_; clear hst; rintro _ w ⟨b5, rfl, hst⟩; refine ⟨FSt.ofA hst (Imm.le.refl _), ?_⟩; refine DRW.call rfl rfl call69 rfl rfl (fread_spec hd (hst.perm (perm_out2 _ _ Lo Ld L)) at1 (beginR G.s.h + 256)) ?_; clear hst; rintro e w ⟨I6, vR, me, mq, rb, nxt, er, hI6, rfl, hst, hrb, hfr⟩; replace hst := hst.perm (perm_out2 _ _ Lo Ld L).symm; replace hgr := hgr.mono hI6; replace hle := hle.trans hI6; refine ⟨_, rfl, FSt.ofA hst hI6, ?_⟩; refine ym rfl rfl rfl ?_; refine DRW.q rfl rfl (fun w' hF => runs_extract rfl rfl) ?_; refine DRW.q rfl rfl (fun w' hF => runs_extract rfl rfl) ?_; refine DRW.q rfl rfl (fun w' hF => runs_extract rfl rfl) ?_; refine DRW.q rfl rfl (fun w' hF => runs_extract rfl rfl) ?_; refine DRW.opE0 rfl (runs_storeW ti124 rfl rfl hst (k := 0) rfl rfl rfl (NoFz.zero _) rfl) ?_; clear hst; rintro w hst; (try simp only [sZ, sS] at hst); refine ⟨FSt.ofA hst hI6, ?_⟩; refine ys rfl rfl rfl <| ys rfl rfl rfl <| ys rfl rfl rfl <| DRW.done ?_; exact AQ.meet (_, _, rb, me, mq, nxt, er, _) ⟨hle, hst, hgr, hrb, hfr⟩ ⟨rfl, rfl, rfl, rfl, rfl, rfl, rfl, trivial⟩
    refine DRW.opE rfl rfl (runs_alloc ti124 hst) ?_; clear hst; rintro _ w ⟨b8, rfl, hst⟩; refine ⟨FSt.ofA hst (Imm.le.refl _), ?_⟩; refine DRW.call rfl rfl call45 rfl rfl (begin_spec hst G.s.h hh) ?_; clear hst; rintro e w ⟨rfl, hst⟩; refine ⟨_, rfl, FSt.ofA hst (Imm.le.refl _), ?_⟩; refine DRW.q rfl rfl (fun w' hF => runs_add rfl rfl (by omega)) ?_; refine DRW.call rfl rfl call69 rfl rfl (fread_spec hd (hst.perm (perm_out2 _ _ Lo Ld L)) at1 (beginR G.s.h + 256)) ?_; clear hst; rintro e w ⟨I10, vR, me, mq, rb, nxt, er, hI10, rfl, hst, hrb, hfr⟩; replace hst := hst.perm (perm_out2 _ _ Lo Ld L).symm; replace hgr := hgr.mono hI10; replace hle := hle.trans hI10; refine ⟨_, rfl, FSt.ofA hst hI10, ?_⟩; refine ym rfl rfl rfl ?_; refine DRW.q rfl rfl (fun w' hF => runs_extract rfl rfl) ?_; refine DRW.q rfl rfl (fun w' hF => runs_extract rfl rfl) ?_; refine DRW.q rfl rfl (fun w' hF => runs_extract rfl rfl) ?_; refine DRW.q rfl rfl (fun w' hF => runs_extract rfl rfl) ?_; refine DRW.opE0 rfl (runs_storeW ti124 rfl rfl hst (k := 0) rfl rfl rfl (NoFz.zero _) rfl) ?_; clear hst; rintro w hst; (try simp only [sZ, sS] at hst); refine ⟨FSt.ofA hst hI10, ?_⟩; refine ys rfl rfl rfl <| ys rfl rfl rfl <| ys rfl rfl rfl <| DRW.done ?_; exact AQ.meet (_, _, rb, me, mq, nxt, er, _) ⟨hle, hst, hgr, hrb, hfr⟩ ⟨rfl, rfl, rfl, rfl, rfl, rfl, rfl, trivial⟩
  · clear hle hst hgr; rintro ⟨IR, vR, rb, me, mq, nxt, er, bm⟩ w ⟨hle, hst, hgr, hrb, hfr⟩; dsimp only at hle hst hgr hrb hfr ⊢; have hto1 : (G.to at1 nx1).nx = nx1 := rfl; have hto2 : (G.to at1 nx1).s.e = G.s.e := rfl; refine AQ.next <| CW.seq <| CW.seq ?_; refine CW.drawSt hst (.q 0 (.q 1 (.q 2 (.q 3 (.q 4 (.q 5 (.q 6 (.q 7 (.q 8 (.q 9 (.q 10 (.q 11 (.q 12 (.q 13 (.q 14 (.q 15 (.q 16 (.q 17 (.q 18 (.q 19 (.q 20 (.q 21 (.q 22 (.q 23 (.q 24 (.q 25 (.q 26 .nil))))))))))))))))))))))))))) follows (by kernel_rfl) (fun w hst => ?_); refine ym rfl rfl rfl ?_; refine DRW.q rfl rfl (fun w' hF => runs_neI rfl rfl) ?_; refine ym rfl rfl rfl ?_; refine DRW.split (t := 37) rfl (fun hb37 => ?_) (fun hb37 => ?_)
    · have hb37p := hb37; (try simp only [dT, dF] at hb37p); refine DRW.q_off rfl rfl rfl rfl hb37 rfl ?_; refine DRW.q_off rfl rfl rfl rfl hb37 rfl ?_; refine DRW.q_off rfl rfl rfl rfl hb37 rfl ?_; refine DRW.q_off rfl rfl rfl rfl hb37 rfl ?_; refine DRW.q_off rfl rfl rfl rfl hb37 rfl ?_; refine DRW.q_off rfl rfl rfl rfl hb37 rfl ?_; refine DRW.q_off rfl rfl rfl rfl hb37 rfl ?_; refine DRW.q rfl rfl (fun w' hF => runs_pick_true rfl hb37 rfl) ?_; refine ym rfl rfl rfl ?_; refine DRW.q_off rfl rfl rfl rfl rfl rfl ?_; refine DRW.q_off rfl rfl rfl rfl rfl rfl ?_; refine DRW.q_off rfl rfl rfl rfl rfl rfl ?_; refine DRW.q_off rfl rfl rfl rfl rfl rfl ?_; refine DRW.q rfl rfl (fun w' hF => runs_pick_true rfl rfl rfl) ?_; refine ym rfl rfl rfl ?_; refine DRW.q_off rfl rfl rfl rfl rfl rfl ?_; refine DRW.q_off rfl rfl rfl rfl rfl rfl ?_; refine DRW.q_off rfl rfl rfl rfl rfl rfl ?_; refine DRW.q_off rfl rfl rfl rfl rfl rfl ?_; refine DRW.q_off rfl rfl rfl rfl rfl rfl ?_; refine DRW.q_off rfl rfl rfl rfl rfl rfl ?_; refine DRW.q_off rfl rfl rfl rfl rfl rfl ?_; refine DRW.q_off rfl rfl rfl rfl rfl rfl ?_; refine DRW.q rfl rfl (fun w' hF => runs_pick_true rfl rfl rfl) ?_; refine DRW.done <| AQ.next ?_; refine CW.cond_true rfl ?_; refine zR <| zm rfl rfl <| zs rfl rfl <| zM <| CW.ret <| AQ.past_ret <| AQ.block_ret <| AQ.past_ret <| AQ.block_ret ?_; refine AQ.ret1 rfl rfl ?_; obtain ⟨I', vs, hI', hst', hr'⟩ := GrowR.freeze hgr ((hst.drop1).perm List.perm_middle.symm)
      exact ⟨I', _, vs, _, _, _, hle.trans hI', rfl, hst', hr', by
        have h := hrec [] at1 nx1 (.stop hfr (by omega))
        rwa [List.append_nil] at h⟩
    · have hb37p := hb37; (try simp only [dT, dF] at hb37p); refine DRW.q_on rfl rfl rfl rfl hb37 rfl (fun w' hF => runs_fieldAddr0 rfl Tryz.underlying124 rfl ti3 (by decide)) ?_; refine DRW.q_on rfl rfl rfl rfl hb37 rfl (FSt.load1_own sc3 rfl (k := 0) rfl rfl) ?_; refine DRW.q_on rfl rfl rfl rfl hb37 rfl (fun w' hF => runs_move rfl) ?_; refine DRW.q_on rfl rfl rfl rfl hb37 rfl (fun w' hF => runs_nilCheck rfl) ?_; refine DRW.q_on rfl rfl rfl rfl hb37 rfl (fun w' hF => runs_fieldAddr0 rfl Tryz.underlying92 rfl ti3 (by decide)) ?_; refine DRW.q_on rfl rfl rfl rfl hb37 rfl (FSt.load1_own sc3 rfl (k := 1) rfl rfl) ?_; refine DRW.q_on rfl rfl rfl rfl hb37 rfl (fun w' hF => runs_neI rfl rfl) ?_; refine DRW.q rfl rfl (fun w' hF => runs_pick_false rfl hb37 rfl) ?_; refine ym rfl rfl rfl ?_; refine DRW.split (t := 46) rfl (fun hb46 => ?_) (fun hb46 => ?_)
      · have hb46p := hb46; (try simp only [dT, dF] at hb46p); refine DRW.q_off rfl rfl rfl rfl hb46 rfl ?_; refine DRW.q_off rfl rfl rfl rfl hb46 rfl ?_; refine DRW.q_off rfl rfl rfl rfl hb46 rfl ?_; refine DRW.q_off rfl rfl rfl rfl hb46 rfl ?_; refine DRW.q rfl rfl (fun w' hF => runs_pick_true rfl hb46 rfl) ?_; refine ym rfl rfl rfl ?_; refine DRW.q_off rfl rfl rfl rfl rfl rfl ?_; refine DRW.q_off rfl rfl rfl rfl rfl rfl ?_; refine DRW.q_off rfl rfl rfl rfl rfl rfl ?_; refine DRW.q_off rfl rfl rfl rfl rfl rfl ?_; refine DRW.q_off rfl rfl rfl rfl rfl rfl ?_; refine DRW.q_off rfl rfl rfl rfl rfl rfl ?_; refine DRW.q_off rfl rfl rfl rfl rfl rfl ?_; refine DRW.q_off rfl rfl rfl rfl rfl rfl ?_; refine DRW.q rfl rfl (fun w' hF => runs_pick_true rfl rfl rfl) ?_; refine DRW.done <| AQ.next ?_; refine CW.cond_true rfl ?_; refine zR <| zm rfl rfl <| zs rfl rfl <| zM <| CW.ret <| AQ.past_ret <| AQ.block_ret <| AQ.past_ret <| AQ.block_ret ?_; refine AQ.ret1 rfl rfl ?_; obtain ⟨I', vs, hI', hst', hr'⟩ := GrowR.freeze hgr ((hst.drop1).perm List.perm_middle.symm)
        exact ⟨I', _, vs, _, _, _, hle.trans hI', rfl, hst', hr', by
          have h := hrec [] at1 nx1 (.stop hfr (by omega))
          rwa [List.append_nil] at h⟩
      · have hb46p := hb46; (try simp only [dT, dF] at hb46p); refine DRW.q_on rfl rfl rfl rfl hb46 rfl (fun w' hF => runs_fieldAddr0 rfl Tryz.underlying124 rfl ti3 (by decide)) ?_; refine DRW.q_on rfl rfl rfl rfl hb46 rfl (FSt.load1_own sc3 rfl (k := 0) rfl rfl) ?_; refine DRW.q_on rfl rfl rfl rfl hb46 rfl (fun w' hF => runs_move rfl) ?_; refine DRW.q_on rfl rfl rfl rfl hb46 rfl (fun w' hF => runs_lss rfl rfl) ?_; refine DRW.q rfl rfl (fun w' hF => runs_pick_false rfl hb46 rfl) ?_; refine ym rfl rfl rfl ?_; refine DRW.split (t := 52) rfl (fun hb52 => ?_) (fun hb52 => ?_)
        · have hb52p := hb52; (try simp only [dT, dF] at hb52p); refine DRW.q_off rfl rfl rfl rfl hb52 rfl ?_; refine DRW.q_off rfl rfl rfl rfl hb52 rfl ?_; refine DRW.q_off rfl rfl rfl rfl hb52 rfl ?_; refine DRW.q_off rfl rfl rfl rfl hb52 rfl ?_; refine DRW.q_off rfl rfl rfl rfl hb52 rfl ?_; refine DRW.q_off rfl rfl rfl rfl hb52 rfl ?_; refine DRW.q_off rfl rfl rfl rfl hb52 rfl ?_; refine DRW.q_off rfl rfl rfl rfl hb52 rfl ?_; refine DRW.q rfl rfl (fun w' hF => runs_pick_true rfl hb52 rfl) ?_; refine DRW.done <| AQ.next ?_; refine CW.cond_true rfl ?_; refine zR <| zm rfl rfl <| zs rfl rfl <| zM <| CW.ret <| AQ.past_ret <| AQ.block_ret <| AQ.past_ret <| AQ.block_ret ?_; refine AQ.ret1 rfl rfl ?_; obtain ⟨I', vs, hI', hst', hr'⟩ := GrowR.freeze hgr ((hst.drop1).perm List.perm_middle.symm)
          exact ⟨I', _, vs, _, _, _, hle.trans hI', rfl, hst', hr', by
            have h := hrec [] at1 nx1 (.stop hfr (by omega))
            rwa [List.append_nil] at h⟩
        · have hb52p := hb52; (try simp only [dT, dF] at hb52p); refine DRW.q_on rfl rfl rfl rfl hb52 rfl (fun w' hF => runs_fieldAddr0 rfl Tryz.underlying124 rfl ti3 (by decide)) ?_; refine DRW.q_on rfl rfl rfl rfl hb52 rfl (FSt.load1_own sc3 rfl (k := 0) rfl rfl) ?_; refine DRW.q_on rfl rfl rfl rfl hb52 rfl (fun w' hF => runs_move rfl) ?_; refine DRW.q_on rfl rfl rfl rfl hb52 rfl (fun w' hF => runs_nilCheck rfl) ?_; refine DRW.q_on rfl rfl rfl rfl hb52 rfl (fun w' hF => runs_fieldAddr0 rfl Tryz.underlying92 rfl ti88 (by decide)) ?_; refine DRW.q_on rfl rfl rfl rfl hb52 rfl (fun w' hF => runs_fieldAddr0 rfl Tryz.underlying88 rfl ti3 (by decide)) ?_; refine DRW.q_on rfl rfl rfl rfl hb52 rfl (FSt.load1_own sc3 rfl (k := 1) rfl rfl) ?_; refine DRW.q_on rfl rfl rfl rfl hb52 rfl (fun w' hF => runs_gtr rfl rfl) ?_; refine DRW.q rfl rfl (fun w' hF => runs_pick_false rfl hb52 rfl) ?_; refine DRW.done <| AQ.next ?_; refine CW.cond rfl (fun hc61 => ?_) (fun hc61 => ?_)
          · have hcb61 := hc61; (try simp only [dT, dF] at hc61); refine zR <| zm rfl rfl <| zs rfl rfl <| zM <| CW.ret <| AQ.past_ret <| AQ.block_ret <| AQ.past_ret <| AQ.block_ret ?_; refine AQ.ret1 rfl rfl ?_; obtain ⟨I', vs, hI', hst', hr'⟩ := GrowR.freeze hgr ((hst.drop1).perm List.perm_middle.symm)
            exact ⟨I', _, vs, _, _, _, hle.trans hI', rfl, hst', hr', by
              have h := hrec [] at1 nx1 (.stop hfr (by omega))
              rwa [List.append_nil] at h⟩
          · have hcb61 := hc61; (try simp only [dT, dF] at hc61)
            have hin : er = 0 ∧ mq = nx1 ∧ least ≤ me ∧ me ≤ G.s.e := by omega
            obtain ⟨rfl, rfl, hlm, hme⟩ := hin; have hfo := frr_ok hok hfr; refine CW.skip <| AQ.next <| zR <| zm rfl rfl <| zm rfl rfl ?_; refine RW.call rfl call70 rfl rfl (clone_spec hst hrb (by omega)) ?_; clear hst; rintro e w ⟨I12, vC, hI12, rfl, hst, hC⟩; replace hgr := hgr.mono hI12; replace hrb := hrb.mono hI12; replace hle := hle.trans hI12; refine ⟨_, rfl, ?_⟩; refine RW.opE rfl (runs_lit1R (xs := [vC]) Tryz.underlying64 ti52 (by decide) rfl rfl rfl (by simpa using hC.one) hst) ?_; clear hst; rintro u13 w ⟨I13, hI13, hst, h13⟩; replace hgr := hgr.mono hI13; replace hrb := hrb.mono hI13; replace hC := hC.mono hI13; replace hle := hle.trans hI13; refine RW.opE rfl (runs_appendRow Tryz.underlying64 ti52 rfl rfl rfl (hst.perm (perm_two2 _ _ Lo (Ld ++ L))) hgr (by assumption) hC (by omega) (by unfold maxLen; omega)) ?_; clear hst; rintro u14 w ⟨Lv14, hst, hg14⟩; have hgr2 := hg14; replace hst := hst.perm (perm_two2 _ _ Lv14 (Ld ++ L)).symm; refine zs rfl rfl <| zM ?_; refine CW.draw (FSt w0 I13 ((bm, .cells #[.int .i64 me, .int .i64 mq] 124) :: (Lv14 ++ (Ld ++ L)))) (.q 0 (.q 1 (.q 2 (.q 3 (.q 4 (.q 5 (.q 6 (.q 7 (.l 8 (.q 9 (.q 10 (.q 11 (.q 12 (.l 13 (.q 14 (.q 15 (.l 16 .nil))))))))))))))))) follows (by kernel_rfl) ⟨_, Imm.le.refl _, hst.draw.sub ((List.sublist_cons_self _ _).cons_cons _)⟩ ?_; replace hst := hst.draw; refine ym rfl rfl rfl <| ym rfl rfl rfl <| yp rfl rfl rfl U124 rfl ti3 rfl <| yl 0 rfl rfl sc3 rfl rfl rfl <| ym rfl rfl rfl <| ym rfl rfl rfl <| yc rfl rfl rfl <| yp rfl rfl rfl U92 rfl ti3 rfl ?_; refine DRW.op1 rfl rfl (runs_load1 sc3 rfl (hst.cell_own (k := 1) rfl rfl)) (FSt.of hst (Imm.le.refl _) ((List.sublist_cons_self _ _).cons_cons _)) ?_; refine DRW.q rfl rfl (fun w' hF => runs_add rfl rfl (by omega)) ?_; refine ys rfl rfl rfl <| yc rfl rfl rfl <| yp rfl rfl rfl U92 rfl ti3 rfl ?_; refine DRW.opE0 rfl (runs_store1P ti3 rfl rfl hst (k := 1) rfl rfl (NoFz.zero _) rfl) ?_; clear hst; rintro w hst; (try simp only [sZ, sS] at hst); refine ⟨FSt.of hst (Imm.le.refl _) ((List.sublist_cons_self _ _).cons_cons _), ?_⟩; refine yc rfl rfl rfl <| yp rfl rfl rfl U92 rfl ti3 rfl ?_; refine DRW.opE0 rfl (runs_store1P ti3 rfl rfl hst (k := 1) rfl rfl (NoFz.zero _) rfl) ?_; clear hst; rintro w hst; (try simp only [sZ, sS] at hst); refine ⟨FSt.of hst (Imm.le.refl _) ((List.sublist_cons_self _ _).cons_cons _), ?_⟩; refine DRW.done <| AQ.block_normal ?_
            exact AQ.again (x := (done, least, at1, mq, IK, vo, Lo)) (done ++ [rb], me, nxt, mq + 1, _, _, Lv14) ⟨hle, hst.drop1, hgr2, fun bs a n h => by
              rw [List.append_assoc]
              exact hrec _ a n (.step hfr hlm hme h), by dsimp only; rw [List.length_append]; simp only [List.length_cons, List.length_nil]; omega⟩ ⟨rfl, rfl, rfl, trivial⟩ (by dsimp only; omega)
def SlotOk (s : Slot) : Prop := 0 ≤ s.n ∧ s.n < 16777216 ∧ 0 ≤ s.e ∧ s.e < 65536 ∧ 0 ≤ s.h ∧ s.h ≤ 1 ∧ 0 ≤ s.f ∧ s.f < 16777216 ∧ 0 ≤ s.b ∧ s.b < 65536
theorem slotAt_ok {x : List UInt8} {s : Slot} (h : slotAt x = some s) : SlotOk s := by
  unfold slotAt at h
  split at h
  · rename_i hs
    simp only [isSlot, Bool.and_eq_true, decide_eq_true_eq] at hs
    obtain rfl : slotOf (openR x) = s := Option.some.inj h; have h1 := openR_rng x; have b0 := bat_lt (openR x).b 0; have b1 := bat_lt (openR x).b 1; have b2 := bat_lt (openR x).b 2; have b3 := bat_lt (openR x).b 3; have b4 := bat_lt (openR x).b 4; have b5 := bat_lt (openR x).b 5; unfold slotOf SlotOk; dsimp only; omega
  · cases h
theorem newest_ok {S : DS} (h : (newestR S).2 = 0) : SlotOk (newestR S).1 := by
  unfold newestR at h ⊢
  split
  · rename_i hd
    rw [if_pos hd] at h
    cases h
  · rename_i hd
    rw [if_neg hd] at h
    split
    · rename_i hl
      rw [if_pos hl] at h
      cases h
    · rename_i hl
      rw [if_neg hl] at h
      cases h0 : slotAt (readR S 0) with
      | none => cases h1 : slotAt (readR S 1) with
        | none => rw [h0, h1] at h; cases h
        | some y => exact slotAt_ok h1
      | some x => cases h1 : slotAt (readR S 1) with
        | none => exact slotAt_ok h0
        | some y =>
          show SlotOk (match (if y.n > x.n then some y else some x) with | some s => (s, (0 : Int)) | none => (slot0, 3)).1
          by_cases hc : y.n > x.n
          · rw [if_pos hc]; exact slotAt_ok h1
          · rw [if_neg hc]; exact slotAt_ok h0
def Slot.up (s : Slot) : Slot := ⟨s.n + 1, s.e + 1, s.h, s.f, s.b⟩
def G0 : LG := ⟨slot0, 0, 0, 0⟩
inductive OpnR (S : DS) : DS → Int → LG → List (List UInt8) → Prop
  | len : (S.secs.length : Int) ≠ 514 → OpnR S S 1 G0 []
  | none : (S.secs.length : Int) = 514 → (newestR S).2 ≠ 0 → OpnR S S (newestR S).2 G0 []
  | st1 : (S.secs.length : Int) = 514 → (newestR S).2 = 0 → (storeR S (newestR S).1).2 ≠ 0 → OpnR S (storeR S (newestR S).1).1 (storeR S (newestR S).1).2 G0 []
  | full : (S.secs.length : Int) = 514 → (newestR S).2 = 0 → (storeR S (newestR S).1).2 = 0 → (newestR S).1.e = 65535 → OpnR S (storeR S (newestR S).1).1 5 G0 []
  | st2 : (S.secs.length : Int) = 514 → (newestR S).2 = 0 → (storeR S (newestR S).1).2 = 0 → (newestR S).1.e ≠ 65535 → (storeR (storeR S (newestR S).1).1 (newestR S).1.up).2 ≠ 0 → OpnR S (storeR (storeR S (newestR S).1).1 (newestR S).1.up).1 (storeR (storeR S (newestR S).1).1 (newestR S).1.up).2 G0 []
  | ok {bs : List (List UInt8)} {a n : Int} : (S.secs.length : Int) = 514 → (newestR S).2 = 0 → (storeR S (newestR S).1).2 = 0 → (newestR S).1.e ≠ 65535 → (storeR (storeR S (newestR S).1).1 (newestR S).1.up).2 = 0 →
    Recs S (beginR (newestR S).1.h + 256) (newestR S).1.e (newestR S).1.b (beginR (newestR S).1.h) (newestR S).1.f bs a n → OpnR S (storeR (storeR S (newestR S).1).1 (newestR S).1.up).1 0 ⟨(newestR S).1.up, a, n, 0⟩ bs
theorem flushR_pend (S : DS) : (flushR S).1.pend.length ≤ S.pend.length := by
  unfold flushR
  split
  · exact Nat.le_refl _
  · exact Nat.zero_le _
theorem storeR_pend (S : DS) (s : Slot) : (storeR S s).1.pend.length ≤ S.pend.length + 1 := by
  unfold storeR; have h1 := writeR_pend S (s.n.tmod 2) (slotX s); have h2 := flushR_pend (writeR S (s.n.tmod 2) (slotX s)).1
  split
  · dsimp only; omega
  · split
    · omega
    · omega
def OpenV (I : Imm) (d : Value) (er : Int) (G : LG) (bs : List (List UInt8)) (x y : Value) (Lo : Own) : Prop :=
  (er ≠ 0 ∧ x = .pointer none ∧ y = .slice none 0 0 ∧ Lo = []) ∨ (er = 0 ∧ ∃ lb vs, x = .pointer (some ⟨lb, 0, none⟩) ∧ Lo = [(lb, .cells (logV d G).toArray 92)] ∧ RdR I y vs bs)
set_option maxRecDepth 100000 in
set_option maxHeartbeats 1000000 in
theorem open_log {w0 w : World} {I : Imm} {L Ld : Own} {d : Value} {S : DS} (hd : DiskO d S Ld) (hst : St w0 w I (Ld ++ L)) (hpn : S.pend.length ≤ 900000) :
    Calls Tryz.prog 27 #[d] w fun e w' => ∃ I' Ld' Lo x y S' er G bs, Imm.le I I' ∧ e = .returned (.tuple #[x, y, .int .i64 er]) ∧ St w0 w' I' (Lo ++ (Ld' ++ L)) ∧ DiskO d S' Ld' ∧ OpenV I' d er G bs x y Lo ∧ OpnR S S' er G bs := by
  obtain ⟨hb, rfl⟩ : ∃ hb, d = .pointer (some ⟨hb, 0, none⟩) := by
    obtain ⟨hb, _, _, _, _, h, _⟩ := hd; exact ⟨hb, h⟩
  refine enter Tryz.func27 rfl (N := 64) rfl rfl ?_
  simp only [zA, zB, zC, zD, zE, Nat.reduceAdd]
  have hle := Imm.le.refl I; refine zR <| zs rfl rfl <| zs rfl rfl <| zs rfl rfl <| zM <| CW.seq <| zR <| zm rfl rfl ?_; refine RW.call rfl call39 rfl rfl (fits_spec hd hst) ?_; clear hst; rintro e w ⟨rfl, hst⟩; refine ⟨_, rfl, ?_⟩; refine RW.op1 rfl (runs_not rfl) <| zM ?_; refine CW.cond rfl (fun hc10 => ?_) (fun hc10 => ?_)
  · have hcb10 := hc10; (try simp only [dT, dF] at hc10); refine zR <| zs rfl rfl <| zs rfl rfl <| zs rfl rfl <| zM <| CW.ret <| AQ.past_ret ?_; refine AQ.retL (rs := [.tmp 2, .tmp 3, .tmp 4]) (vs := [_, _, _]) rfl ⟨rfl, rfl, rfl, trivial⟩ (by simp) ?_; exact ⟨_, Ld, [], _, _, S, 1, G0, [], hle, rfl, hst, hd, .inl ⟨by decide, rfl, rfl, rfl⟩, .len (by simpa using hc10)⟩
  · have hcb10 := hc10; (try simp only [dT, dF] at hc10)
    have hlen : (S.secs.length : Int) = 514 := by simpa using hc10
    refine CW.skip <| AQ.next <| zR <| zm rfl rfl ?_; refine RW.call rfl call44 rfl rfl (newest_spec hd hst) ?_; clear hst; rintro e w ⟨I2, hI2, rfl, hst⟩; obtain ⟨s, hs⟩ : ∃ s, (newestR S).1 = s := ⟨_, rfl⟩
    have hnn : OpnR S S (newestR S).2 G0 [] ∨ (newestR S).2 = 0 := by
      by_cases h : (newestR S).2 = 0
      · exact .inr h
      · exact .inl (.none hlen h)
    have hso := newest_ok (S := S); have h1 := OpnR.st1 (S := S) hlen; have h2 := OpnR.full (S := S) hlen; have h3 := OpnR.st2 (S := S) hlen
    have h4 := fun bs a n => OpnR.ok (S := S) (bs := bs) (a := a) (n := n) hlen
    rw [hs] at h1 h2 h3 h4 hso ⊢; replace hle := hle.trans hI2; refine ⟨_, rfl, ?_⟩; refine zm rfl rfl <| zx rfl rfl rfl <| zx rfl rfl rfl ?_; refine RW.opE rfl (runs_alloc ti88 hst) ?_; clear hst; rintro _ w ⟨b3, rfl, hst⟩; refine zw 0 ti88 rfl rfl hst rfl rfl rfl rfl ?_; clear hst; rintro w hst; (try simp only [sZ, sS] at hst); refine zs rfl rfl <| zM <| CW.seq <| zR <| zm rfl rfl <| RW.op1 rfl (runs_neI rfl rfl) <| zM ?_; refine CW.cond rfl (fun hc17 => ?_) (fun hc17 => ?_)
    · have hcb17 := hc17; (try simp only [dT, dF] at hc17); refine zR <| zm rfl rfl <| zs rfl rfl <| zs rfl rfl <| zs rfl rfl <| zM <| CW.ret <| AQ.past_ret ?_; refine AQ.retL (rs := [.tmp 2, .tmp 3, .tmp 4]) (vs := [_, _, _]) rfl ⟨rfl, rfl, rfl, trivial⟩ (by simp) ?_; exact ⟨_, Ld, [], _, _, S, _, G0, [], hle, rfl, hst.drop1, hd, .inl ⟨by simpa using hc17, rfl, rfl, rfl⟩, hnn.resolve_right (by simpa using hc17)⟩
    · have hcb17 := hc17; (try simp only [dT, dF] at hc17)
      have hz : (newestR S).2 = 0 := by simpa using hc17
      replace h1 := h1 hz; replace h2 := h2 hz; replace h3 := h3 hz
      replace h4 := fun bs a n => h4 bs a n hz
      replace hso := hso hz; have hso2 := hso; unfold SlotOk at hso2; have hbe : beginR s.h = 2 + s.h * 256 := rfl; refine CW.skip <| AQ.next <| CW.seq ?_; refine CW.drawSt hst (.q 0 (.q 1 (.q 2 (.q 3 (.q 5 (.q 6 (.l 4 (.q 7 (.l 8 (.q 9 .nil)))))))))) follows (by kernel_rfl) (fun w hst => ?_); refine ym rfl rfl rfl ?_; refine DRW.q rfl rfl (FSt.loadN (vs := [_, _, _, _, _]) ag88 ti88 rfl (k := 0) rfl rfl rfl) ?_; refine yp rfl rfl rfl U88 rfl ti3 rfl <| yl 0 rfl rfl sc3 rfl rfl rfl <| yp rfl rfl rfl U88 rfl ti3 rfl <| yl 0 rfl rfl sc3 rfl rfl rfl ?_; refine DRW.call rfl rfl call45 rfl rfl (begin_spec hst s.h (by omega)) ?_; clear hst; rintro e w ⟨rfl, hst⟩; refine ⟨_, rfl, FSt.ofA hst (Imm.le.refl _), ?_⟩; refine DRW.q rfl rfl (fun w' hF => runs_buildF (cells := [_, _, _, _, _, _, _, _, _]) bz92 rfl rfl rfl rfl rfl) ?_; refine DRW.opE rfl rfl (runs_box rfl hst) ?_; clear hst; rintro _ w ⟨b6, rfl, hst⟩; refine ⟨FSt.ofA hst (Imm.le.refl _), ?_⟩; refine ys rfl rfl rfl <| DRW.done <| AQ.next <| zR <| zm rfl rfl ?_; refine RW.call rfl call46 rfl rfl (records_spec (G := ⟨s, beginR s.h, s.f, 0⟩) hd (hst.perm (List.perm_middle.symm.cons _)) (by dsimp only; omega) (by dsimp only; omega) (by dsimp only; omega)) ?_; clear hst; rintro e w ⟨I7, vr, vs, bs, ra, rn, hI7, rfl, hst, hrr, hrecs⟩; replace hst := hst.perm (List.perm_middle.cons _); replace hle := hle.trans hI7; refine ⟨_, rfl, ?_⟩; refine zs rfl rfl <| zM <| CW.seq <| zR <| zm rfl rfl ?_; refine RW.op1 rfl (runs_loadN (vs := [_, _, _, _, _]) ag88 ti88 rfl hst (k := 1) rfl rfl rfl) ?_; refine RW.call rfl call43 rfl rfl (store_spec hd (hst.perm (perm_two2 _ _ Ld L)) s (by unfold i64ok; omega) (by omega)) ?_; clear hst; rintro e w ⟨I8, Ld1, hI8, rfl, hst, hd1⟩; replace hst := hst.perm (perm_two2 _ _ Ld1 L).symm; have hp1 := storeR_pend S s; replace hrr := hrr.mono hI8; replace hle := hle.trans hI8; refine ⟨_, rfl, ?_⟩; refine zs rfl rfl <| zN <| zm rfl rfl <| RW.op1 rfl (runs_neI rfl rfl) <| zM ?_; refine CW.cond rfl (fun hc34 => ?_) (fun hc34 => ?_)
      · have hcb34 := hc34; (try simp only [dT, dF] at hc34); refine zR <| zm rfl rfl <| zs rfl rfl <| zs rfl rfl <| zs rfl rfl <| zM <| CW.ret <| AQ.past_ret ?_; refine AQ.retL (rs := [.tmp 2, .tmp 3, .tmp 4]) (vs := [_, _, _]) rfl ⟨rfl, rfl, rfl, trivial⟩ (by simp) ?_; exact ⟨_, Ld1, [], _, _, _, _, G0, [], hle, rfl, hst.drop1.drop1, hd1, .inl ⟨by simpa using hc34, rfl, rfl, rfl⟩, h1 (by simpa using hc34)⟩
      · have hcb34 := hc34; (try simp only [dT, dF] at hc34)
        have hz1 : (storeR S s).2 = 0 := by simpa using hc34
        replace h2 := h2 hz1; replace h3 := h3 hz1
        replace h4 := fun bs a n => h4 bs a n hz1
        refine CW.skip <| AQ.next <| CW.seq <| zR <| zp rfl rfl U88 rfl ti3 rfl <| zl 1 rfl sc3 rfl hst rfl rfl <| RW.op1 rfl (runs_eqI rfl rfl) <| zM ?_; refine CW.cond rfl (fun hc38 => ?_) (fun hc38 => ?_)
        · have hcb38 := hc38; (try simp only [dT, dF] at hc38); refine zR <| zs rfl rfl <| zs rfl rfl <| zs rfl rfl <| zM <| CW.ret <| AQ.past_ret ?_; refine AQ.retL (rs := [.tmp 2, .tmp 3, .tmp 4]) (vs := [_, _, _]) rfl ⟨rfl, rfl, rfl, trivial⟩ (by simp) ?_; exact ⟨_, Ld1, [], _, _, _, 5, G0, [], hle, rfl, hst.drop1.drop1, hd1, .inl ⟨by decide, rfl, rfl, rfl⟩, h2 hc38⟩
        · have hcb38 := hc38; (try simp only [dT, dF] at hc38); replace h3 := h3 hc38
          replace h4 := fun bs a n => h4 bs a n hc38
          refine CW.skip <| AQ.next <| CW.seq ?_; refine CW.draw (FSt w0 I8 ((b3, .cells (slotV s).toArray 88) :: (Ld1 ++ L))) (.q 0 (.q 1 (.q 2 (.q 3 (.q 4 (.q 5 (.q 6 (.q 7 (.q 8 (.q 9 (.q 10 (.l 11 (.q 12 (.q 13 (.q 14 (.l 15 .nil)))))))))))))))) follows (by kernel_rfl) ⟨_, Imm.le.refl _, hst.draw.drop1⟩ ?_; replace hst := hst.draw; refine ym rfl rfl rfl <| ym rfl rfl rfl <| yp rfl rfl rfl U88 rfl ti3 rfl <| yl 0 rfl rfl sc3 rfl rfl rfl ?_; refine DRW.q rfl rfl (fun w' hF => runs_add rfl rfl (by omega)) ?_; refine yp rfl rfl rfl U88 rfl ti3 rfl <| yl 0 rfl rfl sc3 rfl rfl rfl ?_; refine DRW.q rfl rfl (fun w' hF => runs_add rfl rfl (by omega)) ?_; refine yc rfl rfl rfl <| yp rfl rfl rfl U92 rfl ti88 rfl <| yp rfl rfl rfl U88 rfl ti3 rfl ?_; refine DRW.opE0 rfl (runs_store1P ti3 rfl rfl hst (k := 0) rfl rfl (NoFz.zero _) rfl) ?_; clear hst; rintro w hst; (try simp only [sZ, sS] at hst); refine ⟨FSt.ofA hst (Imm.le.refl _), ?_⟩; refine yc rfl rfl rfl <| yp rfl rfl rfl U92 rfl ti88 rfl <| yp rfl rfl rfl U88 rfl ti3 rfl ?_; refine DRW.opE0 rfl (runs_store1P ti3 rfl rfl hst (k := 0) rfl rfl (NoFz.zero _) rfl) ?_; clear hst; rintro w hst; (try simp only [sZ, sS] at hst); refine ⟨FSt.ofA hst (Imm.le.refl _), ?_⟩; refine DRW.done <| AQ.next <| CW.seq <| zR <| zm rfl rfl <| zm rfl rfl <| RW.op1 rfl (runs_nilCheck rfl) <| zp rfl rfl U92 rfl ti88 rfl ?_; refine RW.op1 rfl (runs_loadN (vs := [_, _, _, _, _]) ag88 ti88 rfl hst (k := 0) rfl rfl rfl) ?_; refine RW.call rfl call43 rfl rfl (store_spec hd1 (hst.perm (perm_two2 _ _ Ld1 L)) s.up (by unfold i64ok Slot.up; dsimp only; omega) (by omega)) ?_; clear hst; rintro e w ⟨I11, Ld2, hI11, rfl, hst, hd2⟩; replace hst := hst.perm (perm_two2 _ _ Ld2 L).symm; replace hrr := hrr.mono hI11; replace hle := hle.trans hI11; refine ⟨_, rfl, ?_⟩; refine zs rfl rfl <| zN <| zm rfl rfl <| RW.op1 rfl (runs_neI rfl rfl) <| zM ?_; refine CW.cond rfl (fun hc60 => ?_) (fun hc60 => ?_)
          · have hcb60 := hc60; (try simp only [dT, dF] at hc60); refine zR <| zm rfl rfl <| zs rfl rfl <| zs rfl rfl <| zs rfl rfl <| zM <| CW.ret <| AQ.past_ret ?_; refine AQ.retL (rs := [.tmp 2, .tmp 3, .tmp 4]) (vs := [_, _, _]) rfl ⟨rfl, rfl, rfl, trivial⟩ (by simp) ?_; exact ⟨_, Ld2, [], _, _, _, _, G0, [], hle, rfl, hst.drop1.drop1, hd2, .inl ⟨by simpa using hc60, rfl, rfl, rfl⟩, h3 (by simpa using hc60)⟩
          · have hcb60 := hc60; (try simp only [dT, dF] at hc60); refine CW.skip <| AQ.next <| zR <| zm rfl rfl <| zm rfl rfl <| zs rfl rfl <| zs rfl rfl <| zs rfl rfl <| zM <| CW.ret ?_; refine AQ.retL (rs := [.tmp 2, .tmp 3, .tmp 4]) (vs := [_, _, _]) rfl ⟨rfl, rfl, rfl, trivial⟩ (by simp) ?_; exact ⟨_, Ld2, [_], _, _, _, 0, ⟨s.up, ra, rn, 0⟩, bs, hle, rfl, hst.sub ((List.sublist_cons_self _ _).cons_cons _), hd2, .inr ⟨rfl, _, vs, rfl, rfl, hrr⟩, h4 bs ra rn (by simpa using hc60) hrecs⟩
end Go.Proofs.YtadgbifmiooikaaGreatX
