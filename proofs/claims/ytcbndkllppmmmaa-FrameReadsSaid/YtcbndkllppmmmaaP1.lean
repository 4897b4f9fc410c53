/- Bytes of a number. -/
import Derived.Test.YtcbndkllppmmmaaT
import Derived.Test.YtcbndkllppmmmaaM4
namespace Go.Proofs.YtcbndkllppmmmaaX
set_option linter.unusedVariables false
set_option linter.unusedSimpArgs false
open Go Go.RowKit Go.Proofs

end Go.Proofs.YtcbndkllppmmmaaX
