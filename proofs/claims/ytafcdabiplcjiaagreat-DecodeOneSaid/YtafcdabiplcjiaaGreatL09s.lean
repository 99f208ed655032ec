/- Layer 9, the reference: Func, Bytes, Size; the law of functions. -/
import Derived.Test.YtafcdabiplcjiaaGreatL09r
import Derived.Test.YtafcdabiplcjiaaGreatL09l
namespace Go.Proofs.YtafcdabiplcjiaaGreat
open Go.RowKit
set_option linter.unusedSimpArgs false
set_option linter.unusedVariables false

theorem encFn_len {f : Fn} (h : fnErr f = 0) : (encFn f).length ≤ 80000 := by
  have hE := fnE_of h
  exact encFn_le hE.nl hE.nb (fun b hb => ⟨(hE.bk b hb).1, juErr_args (hE.bk b hb).2.2⟩)
end Go.Proofs.YtafcdabiplcjiaaGreat
