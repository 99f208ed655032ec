/- Layer 14: rvalues agree. -/
import Derived.Test.YtacnjmmppgbmpaaGreatL14d
namespace Go.Proofs.YtacnjmmppgbmpaaGreat
open Go.RowKit
set_option linter.unusedSimpArgs false
set_option linter.unusedVariables false

end Go.Proofs.YtacnjmmppgbmpaaGreat
