-- WRITTEN BY law.py, a program of this session. Not trusted: Lean checks it.
import Derived.Test.YtipolnpffmfmmabKPFnCodeBytesx13
import Derived.Test.YtipolnpffmfmmabKO
import Derived.KernelRfl
namespace Go.Proofs.Ytipolnpffmfmmab.PFnCodeBytes
open Go.RowKit Go.Proofs.YtipolnpffmfmmabW.PrintWords Go.Proofs.YtipolnpffmfmmabW.PrintLast Go.Proofs.YtipolnpffmfmmabO
set_option linter.unusedVariables false
/-- THE ONE PURE STATEMENT that is left. -/
def laws_FnCodeBytes.Pure0 : Prop := ∀ (l0 : List Int) (l1 : List Int), (l0.length ≤ 9223372036854775807 ∧ ∀ y ∈ l0, ((Lit.int .u8 y).wf = true)) → (l1.length ≤ 9223372036854775807 ∧ ∀ y ∈ l1, ((Lit.int .u8 y).wf = true)) → ∃ k, laws_FnCodeBytes.f k l0 l1 = some true
end Go.Proofs.Ytipolnpffmfmmab.PFnCodeBytes
