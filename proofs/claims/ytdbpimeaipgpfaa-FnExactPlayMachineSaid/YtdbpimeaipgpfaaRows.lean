/-
  No cell of these rows narrows 'for every input' (looked for: loops, veiled, ifaces, maps, wideKeys, modest, calm, conditions, laid).
  DERIVED. THE GIVEN ROWS OF THIS SEAT. 6 by the template 'for every input the law returns true; each argument reads behind the call as it read before'; 0 by the template 'total and deterministic' (their statements: YtdbpimeaipgpfaaTotals.lean).
  GIVEN WITH THE SEED: the statements are not yours to turn. If you find one false, say at which input.
  Laid BY PROGRAM, IN A SANDBOX (cutbox-rows.mjs): the forced cells as the released guide's own fill.sh prints them over the translation faea03119f1aa8a0… (all of the seat's roots in one cut). By AI agents, Wed Nov 11 2026. No macro, syntax, notation, axiom, sorry.
-/
import Derived.Test.YtdbpimeaipgpfaaChecked
import GoSem.Claim
import GoSem.ClaimJoined
import GoSem.ClaimMapViews
import Derived.JoinedTies
import Derived.KernelRfl
namespace Go.Proofs.Ytdbpimeaipgpfaa
/- THE CELL 'sum', in the pinned program and in every row, IS THE sha256 OF THE DUMP (.gsa) THAT YtdbpimeaipgpfaaProg.lean LOADS. Nothing in Lean hashes anything: it is a label: what it is worth is what the hold of that sum in a sandbox is worth. -/
noncomputable def Try.pinned : Pinned := { name := "ytdbpimeaipgpfaa", sum := "faea03119f1aa8a085525aed5b2f1599f9ceeb0e477c71e03620a9827ae2b410", checked := Try.checked }
namespace Rows
def none {H : Type} : Left H := { results := [], args := [] }

/-- 'laws.FnExactRunTerm': WHATEVER THE INPUT: true; the input reads as it did. -/
def fnExactRunTermSpec : ChangeSpec := { name := "fnExactRunTerm", fn := fun _ => fun
  | [d1, d2] => { results := [.lit (.bool true)], args := [d1, d2] }
  | _ => none }
def fnExactRunTermRow : OpenClaim := { program := "ytdbpimeaipgpfaa", sum := "faea03119f1aa8a085525aed5b2f1599f9ceeb0e477c71e03620a9827ae2b410", func := "loop.example/g00339/laws.FnExactRunTerm", spec := "fnExactRunTerm", unfollowed := true, recurses := true, apart := false }
def FnExactRunTermSaid : Prop := fnExactRunTermRow.holds Try.pinned (OpenSpec.ofChange fnExactRunTermSpec)

/-- ITS FALSE NEIGHBOUR: 'it returns false'. Refute it at one input. -/
def fnExactRunTermWrong : ChangeSpec := { name := "fnExactRunTerm", fn := fun _ => fun
  | [d1, d2] => { results := [.lit (.bool false)], args := [d1, d2] }
  | _ => none }
def FnExactRunTermWrongFalsely : Prop := fnExactRunTermRow.holds Try.pinned (OpenSpec.ofChange fnExactRunTermWrong)

/-- 'laws.FnExactInferType': WHATEVER THE INPUT: true; the input reads as it did. -/
def fnExactInferTypeSpec : ChangeSpec := { name := "fnExactInferType", fn := fun _ => fun
  | [d] => { results := [.lit (.bool true)], args := [d] }
  | _ => none }
def fnExactInferTypeRow : OpenClaim := { program := "ytdbpimeaipgpfaa", sum := "faea03119f1aa8a085525aed5b2f1599f9ceeb0e477c71e03620a9827ae2b410", func := "loop.example/g00339/laws.FnExactInferType", spec := "fnExactInferType", unfollowed := true, recurses := true, apart := false }
def FnExactInferTypeSaid : Prop := fnExactInferTypeRow.holds Try.pinned (OpenSpec.ofChange fnExactInferTypeSpec)

/-- ITS FALSE NEIGHBOUR: 'it returns false'. Refute it at one input. -/
def fnExactInferTypeWrong : ChangeSpec := { name := "fnExactInferType", fn := fun _ => fun
  | [d] => { results := [.lit (.bool false)], args := [d] }
  | _ => none }
def FnExactInferTypeWrongFalsely : Prop := fnExactInferTypeRow.holds Try.pinned (OpenSpec.ofChange fnExactInferTypeWrong)

/-- 'laws.FnExactRunHanded': WHATEVER THE INPUT: true; the input reads as it did. -/
def fnExactRunHandedSpec : ChangeSpec := { name := "fnExactRunHanded", fn := fun _ => fun
  | [d1, d2] => { results := [.lit (.bool true)], args := [d1, d2] }
  | _ => none }
def fnExactRunHandedRow : OpenClaim := { program := "ytdbpimeaipgpfaa", sum := "faea03119f1aa8a085525aed5b2f1599f9ceeb0e477c71e03620a9827ae2b410", func := "loop.example/g00339/laws.FnExactRunHanded", spec := "fnExactRunHanded", unfollowed := true, recurses := true, apart := false }
def FnExactRunHandedSaid : Prop := fnExactRunHandedRow.holds Try.pinned (OpenSpec.ofChange fnExactRunHandedSpec)

/-- ITS FALSE NEIGHBOUR: 'it returns false'. Refute it at one input. -/
def fnExactRunHandedWrong : ChangeSpec := { name := "fnExactRunHanded", fn := fun _ => fun
  | [d1, d2] => { results := [.lit (.bool false)], args := [d1, d2] }
  | _ => none }
def FnExactRunHandedWrongFalsely : Prop := fnExactRunHandedRow.holds Try.pinned (OpenSpec.ofChange fnExactRunHandedWrong)

/-- 'laws.FnHanded': WHATEVER THE INPUT: true; the input reads as it did. -/
def fnHandedSpec : ChangeSpec := { name := "fnHanded", fn := fun _ => fun
  | [d] => { results := [.lit (.bool true)], args := [d] }
  | _ => none }
def fnHandedRow : OpenClaim := { program := "ytdbpimeaipgpfaa", sum := "faea03119f1aa8a085525aed5b2f1599f9ceeb0e477c71e03620a9827ae2b410", func := "loop.example/g00339/laws.FnHanded", spec := "fnHanded", unfollowed := true, recurses := true, apart := false }
def FnHandedSaid : Prop := fnHandedRow.holds Try.pinned (OpenSpec.ofChange fnHandedSpec)

/-- ITS FALSE NEIGHBOUR: 'it returns false'. Refute it at one input. -/
def fnHandedWrong : ChangeSpec := { name := "fnHanded", fn := fun _ => fun
  | [d] => { results := [.lit (.bool false)], args := [d] }
  | _ => none }
def FnHandedWrongFalsely : Prop := fnHandedRow.holds Try.pinned (OpenSpec.ofChange fnHandedWrong)

/-- 'laws.FnExactPlayMachine': WHATEVER THE INPUT: true; the input reads as it did. -/
def fnExactPlayMachineSpec : ChangeSpec := { name := "fnExactPlayMachine", fn := fun _ => fun
  | [d1, d2] => { results := [.lit (.bool true)], args := [d1, d2] }
  | _ => none }
def fnExactPlayMachineRow : OpenClaim := { program := "ytdbpimeaipgpfaa", sum := "faea03119f1aa8a085525aed5b2f1599f9ceeb0e477c71e03620a9827ae2b410", func := "loop.example/g00339/laws.FnExactPlayMachine", spec := "fnExactPlayMachine", unfollowed := true, recurses := true, apart := false }
def FnExactPlayMachineSaid : Prop := fnExactPlayMachineRow.holds Try.pinned (OpenSpec.ofChange fnExactPlayMachineSpec)

/-- ITS FALSE NEIGHBOUR: 'it returns false'. Refute it at one input. -/
def fnExactPlayMachineWrong : ChangeSpec := { name := "fnExactPlayMachine", fn := fun _ => fun
  | [d1, d2] => { results := [.lit (.bool false)], args := [d1, d2] }
  | _ => none }
def FnExactPlayMachineWrongFalsely : Prop := fnExactPlayMachineRow.holds Try.pinned (OpenSpec.ofChange fnExactPlayMachineWrong)

/-- 'laws.FnExactCheckTerm': WHATEVER THE INPUT: true; the input reads as it did. -/
def fnExactCheckTermSpec : ChangeSpec := { name := "fnExactCheckTerm", fn := fun _ => fun
  | [d1, d2] => { results := [.lit (.bool true)], args := [d1, d2] }
  | _ => none }
def fnExactCheckTermRow : OpenClaim := { program := "ytdbpimeaipgpfaa", sum := "faea03119f1aa8a085525aed5b2f1599f9ceeb0e477c71e03620a9827ae2b410", func := "loop.example/g00339/laws.FnExactCheckTerm", spec := "fnExactCheckTerm", unfollowed := true, recurses := true, apart := false }
def FnExactCheckTermSaid : Prop := fnExactCheckTermRow.holds Try.pinned (OpenSpec.ofChange fnExactCheckTermSpec)

/-- ITS FALSE NEIGHBOUR: 'it returns false'. Refute it at one input. -/
def fnExactCheckTermWrong : ChangeSpec := { name := "fnExactCheckTerm", fn := fun _ => fun
  | [d1, d2] => { results := [.lit (.bool false)], args := [d1, d2] }
  | _ => none }
def FnExactCheckTermWrongFalsely : Prop := fnExactCheckTermRow.holds Try.pinned (OpenSpec.ofChange fnExactCheckTermWrong)

/- THE SECOND FORM. 'bulk': how many values and letters a reading holds, each counted each time it is reached (what is shared counts as often as it is met; a slice's spare places count too). A statement '..UptoSaid' is the law's where the arguments, and the package variables that the reading takes, are together of bulk at most 1048576: NARROWER than '..Said'. Prove '..Said' where nothing that the law and all that it calls make is longer than what came in: it says more and counts as full. Else prove '..UptoSaid'. A law counts once. -/
mutual
def uptoBulk {H : Type} : DataW H → Nat
  | .lit (.string bytes) => bytes.length + 1
  | .lit _ => 1
  | .nil => 1
  | .ptr d => uptoBulk d + 1
  | .slice elems spare => uptoBulkAll elems + uptoBulkAll spare + 1
  | .agg parts => uptoBulkAll parts + 1
  | .iface _ d => uptoBulk d + 1
  | .map entries => uptoBulkEntries entries + 1
  | .held _ => 1
def uptoBulkAll {H : Type} : List (DataW H) → Nat
  | [] => 0
  | d :: r => uptoBulk d + uptoBulkAll r
def uptoBulkEntries {H : Type} : List (Lit × DataW H) → Nat
  | [] => 0
  | x :: r => uptoBulkEntry x + uptoBulkEntries r
def uptoBulkEntry {H : Type} : Lit × DataW H → Nat
  | (.string bytes, d) => bytes.length + uptoBulk d + 1
  | (_, d) => uptoBulk d + 1
 end
def uptoSmall : (H : Type) → List (DataW H) → Bool := fun _ ds => decide (uptoBulkAll ds ≤ 1048576)
def OpenSpec.upto (s : _root_.Go.ChangeSpec) : _root_.Go.OpenSpec := { _root_.Go.OpenSpec.ofChange s with cond := some uptoSmall }

/-- 'laws.FnExactRunTerm', WHERE WHAT IT READS IS OF BULK AT MOST 1048576: true; the input reads as it did. -/
def fnExactRunTermUptoRow : OpenClaim := { program := "ytdbpimeaipgpfaa", sum := "faea03119f1aa8a085525aed5b2f1599f9ceeb0e477c71e03620a9827ae2b410", func := "loop.example/g00339/laws.FnExactRunTerm", spec := "fnExactRunTerm", unfollowed := true, recurses := true, apart := false, narrowed := true }
def FnExactRunTermUptoSaid : Prop := fnExactRunTermUptoRow.holds Try.pinned (OpenSpec.upto fnExactRunTermSpec)

/-- 'laws.FnExactInferType', WHERE WHAT IT READS IS OF BULK AT MOST 1048576: true; the input reads as it did. -/
def fnExactInferTypeUptoRow : OpenClaim := { program := "ytdbpimeaipgpfaa", sum := "faea03119f1aa8a085525aed5b2f1599f9ceeb0e477c71e03620a9827ae2b410", func := "loop.example/g00339/laws.FnExactInferType", spec := "fnExactInferType", unfollowed := true, recurses := true, apart := false, narrowed := true }
def FnExactInferTypeUptoSaid : Prop := fnExactInferTypeUptoRow.holds Try.pinned (OpenSpec.upto fnExactInferTypeSpec)

/-- 'laws.FnExactRunHanded', WHERE WHAT IT READS IS OF BULK AT MOST 1048576: true; the input reads as it did. -/
def fnExactRunHandedUptoRow : OpenClaim := { program := "ytdbpimeaipgpfaa", sum := "faea03119f1aa8a085525aed5b2f1599f9ceeb0e477c71e03620a9827ae2b410", func := "loop.example/g00339/laws.FnExactRunHanded", spec := "fnExactRunHanded", unfollowed := true, recurses := true, apart := false, narrowed := true }
def FnExactRunHandedUptoSaid : Prop := fnExactRunHandedUptoRow.holds Try.pinned (OpenSpec.upto fnExactRunHandedSpec)

/-- 'laws.FnHanded', WHERE WHAT IT READS IS OF BULK AT MOST 1048576: true; the input reads as it did. -/
def fnHandedUptoRow : OpenClaim := { program := "ytdbpimeaipgpfaa", sum := "faea03119f1aa8a085525aed5b2f1599f9ceeb0e477c71e03620a9827ae2b410", func := "loop.example/g00339/laws.FnHanded", spec := "fnHanded", unfollowed := true, recurses := true, apart := false, narrowed := true }
def FnHandedUptoSaid : Prop := fnHandedUptoRow.holds Try.pinned (OpenSpec.upto fnHandedSpec)

/-- 'laws.FnExactPlayMachine', WHERE WHAT IT READS IS OF BULK AT MOST 1048576: true; the input reads as it did. -/
def fnExactPlayMachineUptoRow : OpenClaim := { program := "ytdbpimeaipgpfaa", sum := "faea03119f1aa8a085525aed5b2f1599f9ceeb0e477c71e03620a9827ae2b410", func := "loop.example/g00339/laws.FnExactPlayMachine", spec := "fnExactPlayMachine", unfollowed := true, recurses := true, apart := false, narrowed := true }
def FnExactPlayMachineUptoSaid : Prop := fnExactPlayMachineUptoRow.holds Try.pinned (OpenSpec.upto fnExactPlayMachineSpec)

/-- 'laws.FnExactCheckTerm', WHERE WHAT IT READS IS OF BULK AT MOST 1048576: true; the input reads as it did. -/
def fnExactCheckTermUptoRow : OpenClaim := { program := "ytdbpimeaipgpfaa", sum := "faea03119f1aa8a085525aed5b2f1599f9ceeb0e477c71e03620a9827ae2b410", func := "loop.example/g00339/laws.FnExactCheckTerm", spec := "fnExactCheckTerm", unfollowed := true, recurses := true, apart := false, narrowed := true }
def FnExactCheckTermUptoSaid : Prop := fnExactCheckTermUptoRow.holds Try.pinned (OpenSpec.upto fnExactCheckTermSpec)

end Rows
end Go.Proofs.Ytdbpimeaipgpfaa
