/- The document's spans, fits, heads of a range: what these come to. -/
import Derived.Test.YtfjghkmapccjhaaDoorT
import Derived.Test.YtfjghkmapccjhaaDoorJ7
namespace Go.Proofs.YtfjghkmapccjhaaDoorX
set_option linter.unusedVariables false
set_option linter.unusedSimpArgs false
open Go Go.RowKit Go.Proofs

theorem strOf_nil {l : List UInt8} : ((strOf l).toList == ([] : List UInt8)) = true ↔ l = [] := by rw [strOf_toList]; simp
theorem numberN (l : List UInt8) : strOf l = strOf l := rfl
end Go.Proofs.YtfjghkmapccjhaaDoorX
