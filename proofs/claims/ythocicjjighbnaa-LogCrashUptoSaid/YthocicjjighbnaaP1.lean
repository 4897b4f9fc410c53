/- Bytes of a number. -/
import Derived.Test.YthocicjjighbnaaT
import Derived.Test.YthocicjjighbnaaM4
namespace Go.Proofs.YthocicjjighbnaaX
set_option linter.unusedVariables false
set_option linter.unusedSimpArgs false
open Go Go.RowKit Go.Proofs

end Go.Proofs.YthocicjjighbnaaX
