/-
  No cell of these rows narrows 'for every input' (looked for: loops, veiled, ifaces, maps, wideKeys, modest, calm, conditions, laid).
  DERIVED. THE GIVEN ROWS OF THIS SEAT. 6 by the template 'for every input the law returns true; each argument reads behind the call as it read before'; 0 by the template 'total and deterministic' (their statements: YtipolnpffmfmmabTotals.lean).
  GIVEN WITH THE SEED: the statements are not yours to turn. If you find one false, say at which input.
  Laid BY PROGRAM, IN A SANDBOX (cutbox-rows.mjs): the forced cells as the released guide's own fill.sh prints them over the translation 65f2454014cbe82b… (all of the seat's roots in one cut). By AI agents, Wed Nov 11 2026. No macro, syntax, notation, axiom, sorry.
-/
import Derived.Test.YtipolnpffmfmmabChecked
import GoSem.Claim
import GoSem.ClaimJoined
import GoSem.ClaimMapViews
import Derived.JoinedTies
import Derived.KernelRfl
namespace Go.Proofs.Ytipolnpffmfmmab
/- THE CELL 'sum', in the pinned program and in every row, IS THE sha256 OF THE DUMP (.gsa) THAT YtipolnpffmfmmabProg.lean LOADS. Nothing in Lean hashes anything: it is a label: what it is worth is what the hold of that sum in a sandbox is worth. -/
noncomputable def Try.pinned : Pinned := { name := "ytipolnpffmfmmab", sum := "65f2454014cbe82b7b427950f1ee8749f2441248555742ad269d201b71ed41e6", checked := Try.checked }
namespace Rows
def none {H : Type} : Left H := { results := [], args := [] }

/-- 'laws.FnSpill': WHATEVER THE INPUT: true; the input reads as it did. -/
def fnSpillSpec : ChangeSpec := { name := "fnSpill", fn := fun _ => fun
  | [d1, d2] => { results := [.lit (.bool true)], args := [d1, d2] }
  | _ => none }
def fnSpillRow : OpenClaim := { program := "ytipolnpffmfmmab", sum := "65f2454014cbe82b7b427950f1ee8749f2441248555742ad269d201b71ed41e6", func := "loop.example/g00339/laws.FnSpill", spec := "fnSpill", unfollowed := true, recurses := true, apart := false }
def FnSpillSaid : Prop := fnSpillRow.holds Try.pinned (OpenSpec.ofChange fnSpillSpec)

/-- ITS FALSE NEIGHBOUR: 'it returns false'. Refute it at one input. -/
def fnSpillWrong : ChangeSpec := { name := "fnSpill", fn := fun _ => fun
  | [d1, d2] => { results := [.lit (.bool false)], args := [d1, d2] }
  | _ => none }
def FnSpillWrongFalsely : Prop := fnSpillRow.holds Try.pinned (OpenSpec.ofChange fnSpillWrong)

/-- 'laws.FnScan': WHATEVER THE INPUT: true; the input reads as it did. -/
def fnScanSpec : ChangeSpec := { name := "fnScan", fn := fun _ => fun
  | [d1, d2] => { results := [.lit (.bool true)], args := [d1, d2] }
  | _ => none }
def fnScanRow : OpenClaim := { program := "ytipolnpffmfmmab", sum := "65f2454014cbe82b7b427950f1ee8749f2441248555742ad269d201b71ed41e6", func := "loop.example/g00339/laws.FnScan", spec := "fnScan", unfollowed := true, recurses := true, apart := false }
def FnScanSaid : Prop := fnScanRow.holds Try.pinned (OpenSpec.ofChange fnScanSpec)

/-- ITS FALSE NEIGHBOUR: 'it returns false'. Refute it at one input. -/
def fnScanWrong : ChangeSpec := { name := "fnScan", fn := fun _ => fun
  | [d1, d2] => { results := [.lit (.bool false)], args := [d1, d2] }
  | _ => none }
def FnScanWrongFalsely : Prop := fnScanRow.holds Try.pinned (OpenSpec.ofChange fnScanWrong)

/-- 'laws.FnExactDepthOfCode': WHATEVER THE INPUT: true; the input reads as it did. -/
def fnExactDepthOfCodeSpec : ChangeSpec := { name := "fnExactDepthOfCode", fn := fun _ => fun
  | [d] => { results := [.lit (.bool true)], args := [d] }
  | _ => none }
def fnExactDepthOfCodeRow : OpenClaim := { program := "ytipolnpffmfmmab", sum := "65f2454014cbe82b7b427950f1ee8749f2441248555742ad269d201b71ed41e6", func := "loop.example/g00339/laws.FnExactDepthOfCode", spec := "fnExactDepthOfCode", unfollowed := true, recurses := true, apart := false }
def FnExactDepthOfCodeSaid : Prop := fnExactDepthOfCodeRow.holds Try.pinned (OpenSpec.ofChange fnExactDepthOfCodeSpec)

/-- ITS FALSE NEIGHBOUR: 'it returns false'. Refute it at one input. -/
def fnExactDepthOfCodeWrong : ChangeSpec := { name := "fnExactDepthOfCode", fn := fun _ => fun
  | [d] => { results := [.lit (.bool false)], args := [d] }
  | _ => none }
def FnExactDepthOfCodeWrongFalsely : Prop := fnExactDepthOfCodeRow.holds Try.pinned (OpenSpec.ofChange fnExactDepthOfCodeWrong)

/-- 'laws.FnCodeBytes': WHATEVER THE INPUT: true; the input reads as it did. -/
def fnCodeBytesSpec : ChangeSpec := { name := "fnCodeBytes", fn := fun _ => fun
  | [d1, d2] => { results := [.lit (.bool true)], args := [d1, d2] }
  | _ => none }
def fnCodeBytesRow : OpenClaim := { program := "ytipolnpffmfmmab", sum := "65f2454014cbe82b7b427950f1ee8749f2441248555742ad269d201b71ed41e6", func := "loop.example/g00339/laws.FnCodeBytes", spec := "fnCodeBytes", unfollowed := true, recurses := true, apart := false }
def FnCodeBytesSaid : Prop := fnCodeBytesRow.holds Try.pinned (OpenSpec.ofChange fnCodeBytesSpec)

/-- ITS FALSE NEIGHBOUR: 'it returns false'. Refute it at one input. -/
def fnCodeBytesWrong : ChangeSpec := { name := "fnCodeBytes", fn := fun _ => fun
  | [d1, d2] => { results := [.lit (.bool false)], args := [d1, d2] }
  | _ => none }
def FnCodeBytesWrongFalsely : Prop := fnCodeBytesRow.holds Try.pinned (OpenSpec.ofChange fnCodeBytesWrong)

/-- 'laws.FnExactCheckCode': WHATEVER THE INPUT: true; the input reads as it did. -/
def fnExactCheckCodeSpec : ChangeSpec := { name := "fnExactCheckCode", fn := fun _ => fun
  | [d] => { results := [.lit (.bool true)], args := [d] }
  | _ => none }
def fnExactCheckCodeRow : OpenClaim := { program := "ytipolnpffmfmmab", sum := "65f2454014cbe82b7b427950f1ee8749f2441248555742ad269d201b71ed41e6", func := "loop.example/g00339/laws.FnExactCheckCode", spec := "fnExactCheckCode", unfollowed := true, recurses := true, apart := false }
def FnExactCheckCodeSaid : Prop := fnExactCheckCodeRow.holds Try.pinned (OpenSpec.ofChange fnExactCheckCodeSpec)

/-- ITS FALSE NEIGHBOUR: 'it returns false'. Refute it at one input. -/
def fnExactCheckCodeWrong : ChangeSpec := { name := "fnExactCheckCode", fn := fun _ => fun
  | [d] => { results := [.lit (.bool false)], args := [d] }
  | _ => none }
def FnExactCheckCodeWrongFalsely : Prop := fnExactCheckCodeRow.holds Try.pinned (OpenSpec.ofChange fnExactCheckCodeWrong)

/-- 'laws.FnChecked': WHATEVER THE INPUT: true; the input reads as it did. -/
def fnCheckedSpec : ChangeSpec := { name := "fnChecked", fn := fun _ => fun
  | [d1, d2] => { results := [.lit (.bool true)], args := [d1, d2] }
  | _ => none }
def fnCheckedRow : OpenClaim := { program := "ytipolnpffmfmmab", sum := "65f2454014cbe82b7b427950f1ee8749f2441248555742ad269d201b71ed41e6", func := "loop.example/g00339/laws.FnChecked", spec := "fnChecked", unfollowed := true, recurses := true, apart := false }
def FnCheckedSaid : Prop := fnCheckedRow.holds Try.pinned (OpenSpec.ofChange fnCheckedSpec)

/-- ITS FALSE NEIGHBOUR: 'it returns false'. Refute it at one input. -/
def fnCheckedWrong : ChangeSpec := { name := "fnChecked", fn := fun _ => fun
  | [d1, d2] => { results := [.lit (.bool false)], args := [d1, d2] }
  | _ => none }
def FnCheckedWrongFalsely : Prop := fnCheckedRow.holds Try.pinned (OpenSpec.ofChange fnCheckedWrong)

/- THE SECOND FORM. 'bulk': how many values and letters a reading holds, each counted each time it is reached (what is shared counts as often as it is met; a slice's spare places count too). A statement '..UptoSaid' is the law's where the arguments, and the package variables that the reading takes, are together of bulk at most 1048576: NARROWER than '..Said'. Prove '..Said' where nothing that the law and all that it calls make is longer than what came in: it says more and counts as full. Else prove '..UptoSaid'. A law counts once. -/
mutual
def uptoBulk {H : Type} : DataW H → Nat
  | .lit (.string bytes) => bytes.length + 1
  | .lit _ => 1
  | .nil => 1
  | .ptr d => uptoBulk d + 1
  | .slice elems spare => uptoBulkAll elems + uptoBulkAll spare + 1
  | .agg parts => uptoBulkAll parts + 1
  | .iface _ d => uptoBulk d + 1
  | .map entries => uptoBulkEntries entries + 1
  | .held _ => 1
def uptoBulkAll {H : Type} : List (DataW H) → Nat
  | [] => 0
  | d :: r => uptoBulk d + uptoBulkAll r
def uptoBulkEntries {H : Type} : List (Lit × DataW H) → Nat
  | [] => 0
  | x :: r => uptoBulkEntry x + uptoBulkEntries r
def uptoBulkEntry {H : Type} : Lit × DataW H → Nat
  | (.string bytes, d) => bytes.length + uptoBulk d + 1
  | (_, d) => uptoBulk d + 1
 end
def uptoSmall : (H : Type) → List (DataW H) → Bool := fun _ ds => decide (uptoBulkAll ds ≤ 1048576)
def OpenSpec.upto (s : _root_.Go.ChangeSpec) : _root_.Go.OpenSpec := { _root_.Go.OpenSpec.ofChange s with cond := some uptoSmall }

/-- 'laws.FnSpill', WHERE WHAT IT READS IS OF BULK AT MOST 1048576: true; the input reads as it did. -/
def fnSpillUptoRow : OpenClaim := { program := "ytipolnpffmfmmab", sum := "65f2454014cbe82b7b427950f1ee8749f2441248555742ad269d201b71ed41e6", func := "loop.example/g00339/laws.FnSpill", spec := "fnSpill", unfollowed := true, recurses := true, apart := false, narrowed := true }
def FnSpillUptoSaid : Prop := fnSpillUptoRow.holds Try.pinned (OpenSpec.upto fnSpillSpec)

/-- 'laws.FnScan', WHERE WHAT IT READS IS OF BULK AT MOST 1048576: true; the input reads as it did. -/
def fnScanUptoRow : OpenClaim := { program := "ytipolnpffmfmmab", sum := "65f2454014cbe82b7b427950f1ee8749f2441248555742ad269d201b71ed41e6", func := "loop.example/g00339/laws.FnScan", spec := "fnScan", unfollowed := true, recurses := true, apart := false, narrowed := true }
def FnScanUptoSaid : Prop := fnScanUptoRow.holds Try.pinned (OpenSpec.upto fnScanSpec)

/-- 'laws.FnExactDepthOfCode', WHERE WHAT IT READS IS OF BULK AT MOST 1048576: true; the input reads as it did. -/
def fnExactDepthOfCodeUptoRow : OpenClaim := { program := "ytipolnpffmfmmab", sum := "65f2454014cbe82b7b427950f1ee8749f2441248555742ad269d201b71ed41e6", func := "loop.example/g00339/laws.FnExactDepthOfCode", spec := "fnExactDepthOfCode", unfollowed := true, recurses := true, apart := false, narrowed := true }
def FnExactDepthOfCodeUptoSaid : Prop := fnExactDepthOfCodeUptoRow.holds Try.pinned (OpenSpec.upto fnExactDepthOfCodeSpec)

/-- 'laws.FnCodeBytes', WHERE WHAT IT READS IS OF BULK AT MOST 1048576: true; the input reads as it did. -/
def fnCodeBytesUptoRow : OpenClaim := { program := "ytipolnpffmfmmab", sum := "65f2454014cbe82b7b427950f1ee8749f2441248555742ad269d201b71ed41e6", func := "loop.example/g00339/laws.FnCodeBytes", spec := "fnCodeBytes", unfollowed := true, recurses := true, apart := false, narrowed := true }
def FnCodeBytesUptoSaid : Prop := fnCodeBytesUptoRow.holds Try.pinned (OpenSpec.upto fnCodeBytesSpec)

/-- 'laws.FnExactCheckCode', WHERE WHAT IT READS IS OF BULK AT MOST 1048576: true; the input reads as it did. -/
def fnExactCheckCodeUptoRow : OpenClaim := { program := "ytipolnpffmfmmab", sum := "65f2454014cbe82b7b427950f1ee8749f2441248555742ad269d201b71ed41e6", func := "loop.example/g00339/laws.FnExactCheckCode", spec := "fnExactCheckCode", unfollowed := true, recurses := true, apart := false, narrowed := true }
def FnExactCheckCodeUptoSaid : Prop := fnExactCheckCodeUptoRow.holds Try.pinned (OpenSpec.upto fnExactCheckCodeSpec)

/-- 'laws.FnChecked', WHERE WHAT IT READS IS OF BULK AT MOST 1048576: true; the input reads as it did. -/
def fnCheckedUptoRow : OpenClaim := { program := "ytipolnpffmfmmab", sum := "65f2454014cbe82b7b427950f1ee8749f2441248555742ad269d201b71ed41e6", func := "loop.example/g00339/laws.FnChecked", spec := "fnChecked", unfollowed := true, recurses := true, apart := false, narrowed := true }
def FnCheckedUptoSaid : Prop := fnCheckedUptoRow.holds Try.pinned (OpenSpec.upto fnCheckedSpec)

end Rows
end Go.Proofs.Ytipolnpffmfmmab
