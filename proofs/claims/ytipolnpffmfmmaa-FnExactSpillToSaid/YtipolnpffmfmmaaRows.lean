/-
  No cell of these rows narrows 'for every input' (looked for: loops, veiled, ifaces, maps, wideKeys, modest, calm, conditions, laid).
  DERIVED. THE GIVEN ROWS OF THIS SEAT. 6 by the template 'for every input the law returns true; each argument reads behind the call as it read before'; 0 by the template 'total and deterministic' (their statements: YtipolnpffmfmmaaTotals.lean).
  GIVEN WITH THE SEED: the statements are not yours to turn. If you find one false, say at which input.
  Laid BY PROGRAM, IN A SANDBOX (cutbox-rows.mjs): the forced cells as the released guide's own fill.sh prints them over the translation 4b1ed65dc9736e61… (all of the seat's roots in one cut). By AI agents, Wed Nov 11 2026. No macro, syntax, notation, axiom, sorry.
-/
import Derived.Test.YtipolnpffmfmmaaChecked
import GoSem.Claim
import GoSem.ClaimJoined
import GoSem.ClaimMapViews
import Derived.JoinedTies
import Derived.KernelRfl
namespace Go.Proofs.Ytipolnpffmfmmaa
/- THE CELL 'sum', in the pinned program and in every row, IS THE sha256 OF THE DUMP (.gsa) THAT YtipolnpffmfmmaaProg.lean LOADS. Nothing in Lean hashes anything: it is a label: what it is worth is what the hold of that sum in a sandbox is worth. -/
noncomputable def Try.pinned : Pinned := { name := "ytipolnpffmfmmaa", sum := "4b1ed65dc9736e6196d5b8526e5fa6be255be71c309028175efab64d8d397361", checked := Try.checked }
namespace Rows
def none {H : Type} : Left H := { results := [], args := [] }

/-- 'laws.FnExactSameHeaps': WHATEVER THE INPUT: true; the input reads as it did. -/
def fnExactSameHeapsSpec : ChangeSpec := { name := "fnExactSameHeaps", fn := fun _ => fun
  | [d1, d2] => { results := [.lit (.bool true)], args := [d1, d2] }
  | _ => none }
def fnExactSameHeapsRow : OpenClaim := { program := "ytipolnpffmfmmaa", sum := "4b1ed65dc9736e6196d5b8526e5fa6be255be71c309028175efab64d8d397361", func := "loop.example/g00339/laws.FnExactSameHeaps", spec := "fnExactSameHeaps", unfollowed := true, recurses := true, apart := false }
def FnExactSameHeapsSaid : Prop := fnExactSameHeapsRow.holds Try.pinned (OpenSpec.ofChange fnExactSameHeapsSpec)

/-- ITS FALSE NEIGHBOUR: 'it returns false'. Refute it at one input. -/
def fnExactSameHeapsWrong : ChangeSpec := { name := "fnExactSameHeaps", fn := fun _ => fun
  | [d1, d2] => { results := [.lit (.bool false)], args := [d1, d2] }
  | _ => none }
def FnExactSameHeapsWrongFalsely : Prop := fnExactSameHeapsRow.holds Try.pinned (OpenSpec.ofChange fnExactSameHeapsWrong)

/-- 'laws.FnExactCopyHeap': WHATEVER THE INPUT: true; the input reads as it did. -/
def fnExactCopyHeapSpec : ChangeSpec := { name := "fnExactCopyHeap", fn := fun _ => fun
  | [d] => { results := [.lit (.bool true)], args := [d] }
  | _ => none }
def fnExactCopyHeapRow : OpenClaim := { program := "ytipolnpffmfmmaa", sum := "4b1ed65dc9736e6196d5b8526e5fa6be255be71c309028175efab64d8d397361", func := "loop.example/g00339/laws.FnExactCopyHeap", spec := "fnExactCopyHeap", unfollowed := true, recurses := true, apart := false }
def FnExactCopyHeapSaid : Prop := fnExactCopyHeapRow.holds Try.pinned (OpenSpec.ofChange fnExactCopyHeapSpec)

/-- ITS FALSE NEIGHBOUR: 'it returns false'. Refute it at one input. -/
def fnExactCopyHeapWrong : ChangeSpec := { name := "fnExactCopyHeap", fn := fun _ => fun
  | [d] => { results := [.lit (.bool false)], args := [d] }
  | _ => none }
def FnExactCopyHeapWrongFalsely : Prop := fnExactCopyHeapRow.holds Try.pinned (OpenSpec.ofChange fnExactCopyHeapWrong)

/-- 'laws.FnHeapSteps': WHATEVER THE INPUT: true; the input reads as it did. -/
def fnHeapStepsSpec : ChangeSpec := { name := "fnHeapSteps", fn := fun _ => fun
  | [d1, d2] => { results := [.lit (.bool true)], args := [d1, d2] }
  | _ => none }
def fnHeapStepsRow : OpenClaim := { program := "ytipolnpffmfmmaa", sum := "4b1ed65dc9736e6196d5b8526e5fa6be255be71c309028175efab64d8d397361", func := "loop.example/g00339/laws.FnHeapSteps", spec := "fnHeapSteps", unfollowed := true, recurses := true, apart := false }
def FnHeapStepsSaid : Prop := fnHeapStepsRow.holds Try.pinned (OpenSpec.ofChange fnHeapStepsSpec)

/-- ITS FALSE NEIGHBOUR: 'it returns false'. Refute it at one input. -/
def fnHeapStepsWrong : ChangeSpec := { name := "fnHeapSteps", fn := fun _ => fun
  | [d1, d2] => { results := [.lit (.bool false)], args := [d1, d2] }
  | _ => none }
def FnHeapStepsWrongFalsely : Prop := fnHeapStepsRow.holds Try.pinned (OpenSpec.ofChange fnHeapStepsWrong)

/-- 'laws.FnCopied': WHATEVER THE INPUT: true; the input reads as it did. -/
def fnCopiedSpec : ChangeSpec := { name := "fnCopied", fn := fun _ => fun
  | [d1, d2] => { results := [.lit (.bool true)], args := [d1, d2] }
  | _ => none }
def fnCopiedRow : OpenClaim := { program := "ytipolnpffmfmmaa", sum := "4b1ed65dc9736e6196d5b8526e5fa6be255be71c309028175efab64d8d397361", func := "loop.example/g00339/laws.FnCopied", spec := "fnCopied", unfollowed := true, recurses := true, apart := false }
def FnCopiedSaid : Prop := fnCopiedRow.holds Try.pinned (OpenSpec.ofChange fnCopiedSpec)

/-- ITS FALSE NEIGHBOUR: 'it returns false'. Refute it at one input. -/
def fnCopiedWrong : ChangeSpec := { name := "fnCopied", fn := fun _ => fun
  | [d1, d2] => { results := [.lit (.bool false)], args := [d1, d2] }
  | _ => none }
def FnCopiedWrongFalsely : Prop := fnCopiedRow.holds Try.pinned (OpenSpec.ofChange fnCopiedWrong)

/-- 'laws.FnExactScanSpans': WHATEVER THE INPUT: true; the input reads as it did. -/
def fnExactScanSpansSpec : ChangeSpec := { name := "fnExactScanSpans", fn := fun _ => fun
  | [d] => { results := [.lit (.bool true)], args := [d] }
  | _ => none }
def fnExactScanSpansRow : OpenClaim := { program := "ytipolnpffmfmmaa", sum := "4b1ed65dc9736e6196d5b8526e5fa6be255be71c309028175efab64d8d397361", func := "loop.example/g00339/laws.FnExactScanSpans", spec := "fnExactScanSpans", unfollowed := true, recurses := true, apart := false }
def FnExactScanSpansSaid : Prop := fnExactScanSpansRow.holds Try.pinned (OpenSpec.ofChange fnExactScanSpansSpec)

/-- ITS FALSE NEIGHBOUR: 'it returns false'. Refute it at one input. -/
def fnExactScanSpansWrong : ChangeSpec := { name := "fnExactScanSpans", fn := fun _ => fun
  | [d] => { results := [.lit (.bool false)], args := [d] }
  | _ => none }
def FnExactScanSpansWrongFalsely : Prop := fnExactScanSpansRow.holds Try.pinned (OpenSpec.ofChange fnExactScanSpansWrong)

/-- 'laws.FnExactSpillTo': WHATEVER THE INPUT: true; the input reads as it did. -/
def fnExactSpillToSpec : ChangeSpec := { name := "fnExactSpillTo", fn := fun _ => fun
  | [d1, d2] => { results := [.lit (.bool true)], args := [d1, d2] }
  | _ => none }
def fnExactSpillToRow : OpenClaim := { program := "ytipolnpffmfmmaa", sum := "4b1ed65dc9736e6196d5b8526e5fa6be255be71c309028175efab64d8d397361", func := "loop.example/g00339/laws.FnExactSpillTo", spec := "fnExactSpillTo", unfollowed := true, recurses := true, apart := false }
def FnExactSpillToSaid : Prop := fnExactSpillToRow.holds Try.pinned (OpenSpec.ofChange fnExactSpillToSpec)

/-- ITS FALSE NEIGHBOUR: 'it returns false'. Refute it at one input. -/
def fnExactSpillToWrong : ChangeSpec := { name := "fnExactSpillTo", fn := fun _ => fun
  | [d1, d2] => { results := [.lit (.bool false)], args := [d1, d2] }
  | _ => none }
def FnExactSpillToWrongFalsely : Prop := fnExactSpillToRow.holds Try.pinned (OpenSpec.ofChange fnExactSpillToWrong)

/- THE SECOND FORM. 'bulk': how many values and letters a reading holds, each counted each time it is reached (what is shared counts as often as it is met; a slice's spare places count too). A statement '..UptoSaid' is the law's where the arguments, and the package variables that the reading takes, are together of bulk at most 1048576: NARROWER than '..Said'. Prove '..Said' where nothing that the law and all that it calls make is longer than what came in: it says more and counts as full. Else prove '..UptoSaid'. A law counts once. -/
mutual
def uptoBulk {H : Type} : DataW H → Nat
  | .lit (.string bytes) => bytes.length + 1
  | .lit _ => 1
  | .nil => 1
  | .ptr d => uptoBulk d + 1
  | .slice elems spare => uptoBulkAll elems + uptoBulkAll spare + 1
  | .agg parts => uptoBulkAll parts + 1
  | .iface _ d => uptoBulk d + 1
  | .map entries => uptoBulkEntries entries + 1
  | .held _ => 1
def uptoBulkAll {H : Type} : List (DataW H) → Nat
  | [] => 0
  | d :: r => uptoBulk d + uptoBulkAll r
def uptoBulkEntries {H : Type} : List (Lit × DataW H) → Nat
  | [] => 0
  | x :: r => uptoBulkEntry x + uptoBulkEntries r
def uptoBulkEntry {H : Type} : Lit × DataW H → Nat
  | (.string bytes, d) => bytes.length + uptoBulk d + 1
  | (_, d) => uptoBulk d + 1
 end
def uptoSmall : (H : Type) → List (DataW H) → Bool := fun _ ds => decide (uptoBulkAll ds ≤ 1048576)
def OpenSpec.upto (s : _root_.Go.ChangeSpec) : _root_.Go.OpenSpec := { _root_.Go.OpenSpec.ofChange s with cond := some uptoSmall }

/-- 'laws.FnExactSameHeaps', WHERE WHAT IT READS IS OF BULK AT MOST 1048576: true; the input reads as it did. -/
def fnExactSameHeapsUptoRow : OpenClaim := { program := "ytipolnpffmfmmaa", sum := "4b1ed65dc9736e6196d5b8526e5fa6be255be71c309028175efab64d8d397361", func := "loop.example/g00339/laws.FnExactSameHeaps", spec := "fnExactSameHeaps", unfollowed := true, recurses := true, apart := false, narrowed := true }
def FnExactSameHeapsUptoSaid : Prop := fnExactSameHeapsUptoRow.holds Try.pinned (OpenSpec.upto fnExactSameHeapsSpec)

/-- 'laws.FnExactCopyHeap', WHERE WHAT IT READS IS OF BULK AT MOST 1048576: true; the input reads as it did. -/
def fnExactCopyHeapUptoRow : OpenClaim := { program := "ytipolnpffmfmmaa", sum := "4b1ed65dc9736e6196d5b8526e5fa6be255be71c309028175efab64d8d397361", func := "loop.example/g00339/laws.FnExactCopyHeap", spec := "fnExactCopyHeap", unfollowed := true, recurses := true, apart := false, narrowed := true }
def FnExactCopyHeapUptoSaid : Prop := fnExactCopyHeapUptoRow.holds Try.pinned (OpenSpec.upto fnExactCopyHeapSpec)

/-- 'laws.FnHeapSteps', WHERE WHAT IT READS IS OF BULK AT MOST 1048576: true; the input reads as it did. -/
def fnHeapStepsUptoRow : OpenClaim := { program := "ytipolnpffmfmmaa", sum := "4b1ed65dc9736e6196d5b8526e5fa6be255be71c309028175efab64d8d397361", func := "loop.example/g00339/laws.FnHeapSteps", spec := "fnHeapSteps", unfollowed := true, recurses := true, apart := false, narrowed := true }
def FnHeapStepsUptoSaid : Prop := fnHeapStepsUptoRow.holds Try.pinned (OpenSpec.upto fnHeapStepsSpec)

/-- 'laws.FnCopied', WHERE WHAT IT READS IS OF BULK AT MOST 1048576: true; the input reads as it did. -/
def fnCopiedUptoRow : OpenClaim := { program := "ytipolnpffmfmmaa", sum := "4b1ed65dc9736e6196d5b8526e5fa6be255be71c309028175efab64d8d397361", func := "loop.example/g00339/laws.FnCopied", spec := "fnCopied", unfollowed := true, recurses := true, apart := false, narrowed := true }
def FnCopiedUptoSaid : Prop := fnCopiedUptoRow.holds Try.pinned (OpenSpec.upto fnCopiedSpec)

/-- 'laws.FnExactScanSpans', WHERE WHAT IT READS IS OF BULK AT MOST 1048576: true; the input reads as it did. -/
def fnExactScanSpansUptoRow : OpenClaim := { program := "ytipolnpffmfmmaa", sum := "4b1ed65dc9736e6196d5b8526e5fa6be255be71c309028175efab64d8d397361", func := "loop.example/g00339/laws.FnExactScanSpans", spec := "fnExactScanSpans", unfollowed := true, recurses := true, apart := false, narrowed := true }
def FnExactScanSpansUptoSaid : Prop := fnExactScanSpansUptoRow.holds Try.pinned (OpenSpec.upto fnExactScanSpansSpec)

/-- 'laws.FnExactSpillTo', WHERE WHAT IT READS IS OF BULK AT MOST 1048576: true; the input reads as it did. -/
def fnExactSpillToUptoRow : OpenClaim := { program := "ytipolnpffmfmmaa", sum := "4b1ed65dc9736e6196d5b8526e5fa6be255be71c309028175efab64d8d397361", func := "loop.example/g00339/laws.FnExactSpillTo", spec := "fnExactSpillTo", unfollowed := true, recurses := true, apart := false, narrowed := true }
def FnExactSpillToUptoSaid : Prop := fnExactSpillToUptoRow.holds Try.pinned (OpenSpec.upto fnExactSpillToSpec)

end Rows
end Go.Proofs.Ytipolnpffmfmmaa
