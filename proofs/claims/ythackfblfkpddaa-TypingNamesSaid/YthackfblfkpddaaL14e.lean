/- Layer 14: rvalues agree. -/
import Derived.Test.YthackfblfkpddaaL14d
namespace Go.Proofs.Ythackfblfkpddaa
open Go.RowKit
set_option linter.unusedSimpArgs false
set_option linter.unusedVariables false

end Go.Proofs.Ythackfblfkpddaa
