/- Layer 45: which verdicts are valid, by the reference. -/
import Derived.Test.YtjllaogechckoaaDoorW45b
import Derived.Test.YtjllaogechckoaaDoorW45c
import Derived.Test.YtjllaogechckoaaDoorW45i
namespace Go.Proofs.YtjllaogechckoaaDoor
open Go.RowKit
set_option linter.unusedSimpArgs false
set_option linter.unusedVariables false

theorem ref42_Check (v : Ve) (pv rv : Value) (w : World) {F F' : Nat → Prop} (hv : v.ok) (hp : Sl F w pv v.prints) (hr : Sl F' w rv v.result) (h1 : v.prints.length ≤ 140737488355328) (h2 : v.result.length ≤ 140737488355328) :
    Calls Tryd.prog 22 #[v.v pv rv] w (Ret w (.int .i64 (opOk (veOk v)))) := by
  have hkk : v.kind = 1 ∨ v.kind = 2 ∨ v.kind = 3 ∨ v.kind = 4 ∨ v.kind = 5 ∨ (v.kind ≠ 1 ∧ v.kind ≠ 2 ∧ v.kind ≠ 3 ∧ v.kind ≠ 4 ∧ v.kind ≠ 5) := by omega
  rcases hkk with hk | hk | hk | hk | hk | hk
  · exact ref42_Check_1 v pv rv w hv hp hr h1 h2 hk
  · exact ref42_Check_2 v pv rv w hv hp hr h1 h2 hk
  · exact ref42_Check_3 v pv rv w hv hp hr h1 h2 hk
  · exact ref42_Check_4 v pv rv w hv hp hr h1 h2 hk
  · exact ref42_Check_5 v pv rv w hv hp hr h1 h2 hk
  · exact ref42_Check_6 v pv rv w hv hp hr h1 h2 hk
end Go.Proofs.YtjllaogechckoaaDoor
