/- Numbers written out by the library; what asks for the rest: what these come to. -/
import Derived.Test.YtfjghkmapccjhaaDoorT
import Derived.Test.YtfjghkmapccjhaaDoorJ4
import Derived.Test.YtfjghkmapccjhaaDoorSH
namespace Go.Proofs.YtfjghkmapccjhaaDoorX
set_option linter.unusedVariables false
set_option linter.unusedSimpArgs false
open Go Go.RowKit Go.Proofs

/-- The library's table of powers of ten stands in blocks that nobody writes. -/
def TabK (I : Imm) : Prop := ∃ g T fz, Tryd.prog.globalNamed "internal/strconv.uint64pow10" = some g ∧ I g = some (.cells (Lib.pow10Tab.map fun z => Value.int .u64 z).toArray T fz)
theorem TabK.mono {I I' : Imm} (hI : I.le I') (h : TabK I) : TabK I' := let ⟨g, T, fz, h1, h2⟩ := h; ⟨g, T, fz, h1, hI _ _ h2⟩
theorem TabK.is {w0 w : World} {I : Imm} {L : Own} (h : TabK I) (hst : St w0 w I L) : Lib.TabIs Tryd.prog w "internal/strconv.uint64pow10" .u64 Lib.pow10Tab := by
  obtain ⟨g, T, fz, h1, h2⟩ := h
  unfold Lib.TabIs World.var?
  rw [h1]
  show (match w.heap[g]? with | some (.cells cs _ _) => some cs | _ => none) = _
  rw [hst.imm _ _ h2]
theorem St.drawnN {w0 w : World} {I : Imm} {L : Own} (h : St w0 w I L) (k : Nat) : St w0 (w.drewN k) I L := ⟨h.os, h.tape, h.out, h.imm, h.own, h.sep, h.nd⟩
theorem St.grown {w0 w : World} {I : Imm} {L : Own} (h : St w0 w I L) (os : Array Obj) : St w0 (Sort.grow w os) I L :=
  ⟨h.os, h.tape, h.out, fun b o hb => by show (w.heap ++ os)[b]? = _; rw [Array.getElem?_append_left (h.lt hb)]; exact h.imm b o hb,
    fun p hp => by show (w.heap ++ os)[p.1]? = _; rw [Array.getElem?_append_left (h.lt_own hp)]; exact h.own p hp, h.sep, h.nd⟩
theorem itoa_spec {w0 w : World} {I : Imm} {L : Own} (hst : St w0 w I L) (hT : TabK I) (n : Int) (h0 : 1 ≤ n) (h1 : n ≤ 9223372036854775807) :
    Calls Tryd.prog 26 #[.int .i64 n] w fun e w' => e = .returned (.string (strOf (Lib.decDigits n.toNat))) ∧ St w0 w' I L := by
  refine (Tryd.strconv_Itoa n (by omega) h1 w (hT.is hst)).mono ?_
  rintro e w' ⟨rfl, k, os, rfl⟩
  refine ⟨?_, (hst.drawnN k).grown os⟩
  unfold Lib.itoa
  rw [if_neg (by omega)]
  rfl
theorem digits_len : ∀ (f n : Nat), n < 10 ^ f → (Lib.decDigits n).length ≤ f + 1
  | 0, n, h => by
    unfold Lib.decDigits
    rw [dif_pos (by simp at h; omega)]
    simp
  | f + 1, n, h => by
    unfold Lib.decDigits
    split
    · simp
    · have := digits_len f (n / 10) (by rw [Nat.pow_succ] at h; omega)
      simp; omega
theorem digits_room {n : Int} (h0 : 1 ≤ n) (h1 : n ≤ 9223372036854775807) : (Lib.decDigits n.toNat).length ≤ 20 := digits_len 19 n.toNat (by omega)
def rangeN : ByteArray := ⟨#[82, 97, 110, 103, 101]⟩
def ifN : ByteArray := ⟨#[73, 102, 45, 82, 97, 110, 103, 101]⟩
def bytesE : ByteArray := ⟨#[98, 121, 116, 101, 115, 61]⟩
def rangeV (n : Int) : ByteArray := bytesE ++ strOf (Lib.decDigits n.toNat) ++ ⟨#[45]⟩
def rheadsR (got : Int) (tag : ByteArray) : List HRow := if got < 1 ∨ (tag.toList == ([] : List UInt8)) = true then [] else [(rangeN, rangeV got), (ifN, tag)]
end Go.Proofs.YtfjghkmapccjhaaDoorX
