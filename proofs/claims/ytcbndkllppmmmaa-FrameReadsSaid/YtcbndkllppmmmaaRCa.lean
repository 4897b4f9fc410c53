/- What the kernel works out. Own lemmas, no program in sight. -/
import Derived.Test.YtcbndkllppmmmaaRB
namespace Go.Proofs.YtcbndkllppmmmaaX
open Go Go.RowKit

theorem all_0 : allF 0 160 = true := by decide +kernel
theorem all_1 : allF 160 160 = true := by decide +kernel
theorem all_2 : allF 320 160 = true := by decide +kernel
theorem all_3 : allF 480 160 = true := by decide +kernel
theorem all_4 : allF 640 160 = true := by decide +kernel
theorem all_5 : allF 800 160 = true := by decide +kernel
theorem all_6 : allF 960 160 = true := by decide +kernel
theorem all_7 : allF 1120 160 = true := by decide +kernel
theorem all_chk {r : Nat} (h : r < 1280) : chkA r = true ∧ chkB r = true := by
  by_cases h0 : r < 160
  · exact allF_ok all_0 r (by omega) (by omega)
  by_cases h1 : r < 320
  · exact allF_ok all_1 r (by omega) (by omega)
  by_cases h2 : r < 480
  · exact allF_ok all_2 r (by omega) (by omega)
  by_cases h3 : r < 640
  · exact allF_ok all_3 r (by omega) (by omega)
  by_cases h4 : r < 800
  · exact allF_ok all_4 r (by omega) (by omega)
  by_cases h5 : r < 960
  · exact allF_ok all_5 r (by omega) (by omega)
  by_cases h6 : r < 1120
  · exact allF_ok all_6 r (by omega) (by omega)
  · exact allF_ok all_7 r (by omega) (by omega)
end Go.Proofs.YtcbndkllppmmmaaX
