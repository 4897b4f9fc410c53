/- The document's example of the disk; what may not be asked for: the walks. -/
import Derived.Test.YthocicjjighbnaaT
import Derived.Test.YthocicjjighbnaaD5
import Derived.Test.YthocicjjighbnaaP1
namespace Go.Proofs.YthocicjjighbnaaX
set_option linter.unusedVariables false
set_option linter.unusedSimpArgs false
open Go Go.RowKit Go.Proofs

theorem may_down {S : DS} {a : Int} (h : S.down = true) : mayR S a = 8 := by unfold mayR; rw [if_pos h]
theorem may_out {S : DS} {a : Int} (h : S.down = false) (ha : a < 0 ∨ (S.secs.length : Int) ≤ a) : mayR S a = 9 := by unfold mayR; rw [if_neg (by rw [h]; decide), if_pos ha]
theorem may_in {S : DS} {a : Int} (h : S.down = false) (h0 : 0 ≤ a) (h1 : a < S.secs.length) : mayR S a = 0 := by unfold mayR; rw [if_neg (by rw [h]; decide), if_neg (by omega)]
theorem write_no {S : DS} {a e : Int} {b : List UInt8} (h : mayR S a = e) (he : e ≠ 0) : writeR S a b = (S, e) := by unfold writeR; rw [if_pos (by rw [h]; exact he), h]
theorem write_arg {S : DS} {a : Int} {b : List UInt8} (h : mayR S a = 0) (hb : b.length ≠ 32) : writeR S a b = (S, 1) := by unfold writeR; rw [if_neg (by rw [h]; decide), if_pos hb]
theorem write_dry {S : DS} {a : Int} {b : List UInt8} (h : mayR S a = 0) (hb : b.length = 32) (hl : S.left = 0) : writeR S a b = ({ S with down := true }, 8) := by unfold writeR; rw [if_neg (by rw [h]; decide), if_neg (by rw [hb]; decide), if_pos hl]
theorem write_ok {S : DS} {a : Int} {b : List UInt8} (h : mayR S a = 0) (hb : b.length = 32) (hl : S.left ≠ 0) : writeR S a b = ({ S with left := if S.left - 1 > -1 then S.left - 1 else -1, pend := S.pend ++ [(a, b)] }, 0) := by unfold writeR; rw [if_neg (by rw [h]; decide), if_neg (by rw [hb]; decide), if_neg hl]
theorem newR_len (n : Int) : (newR n).secs.length = if n ≤ 0 then 0 else if n ≥ 1024 then 1024 else n.toNat := by simp only [newR, List.length_replicate]
end Go.Proofs.YthocicjjighbnaaX
