-- WRITTEN BY law.py, a program of this session. Not trusted: Lean checks it.
import Derived.Test.YtcbgiccgiegdbabPFnExactReadCodex10
import Derived.Test.YtcbgiccgiegdbabO
import Derived.KernelRfl
namespace Go.Proofs.Ytcbgiccgiegdbab.PFnExactReadCode
open Go.RowKit Go.Proofs.YtcbgiccgiegdbabW.PrintWords Go.Proofs.YtcbgiccgiegdbabW.PrintLast Go.Proofs.YtcbgiccgiegdbabO
set_option linter.unusedVariables false
/-- THE ONE PURE STATEMENT that is left. -/
def laws_FnExactReadCode.Pure0 : Prop := ∀ (a0 : ByteArray), a0.size ≤ 9223372036854775807 → ∃ k, laws_FnExactReadCode.f k a0 = some true
end Go.Proofs.Ytcbgiccgiegdbab.PFnExactReadCode
