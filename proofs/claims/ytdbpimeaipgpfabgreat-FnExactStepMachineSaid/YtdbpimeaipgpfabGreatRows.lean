/-
  No cell of these rows narrows 'for every input' (looked for: loops, veiled, ifaces, maps, wideKeys, modest, calm, conditions, laid).
  DERIVED. THE GIVEN ROWS OF THIS SEAT. 4 by the template 'for every input the law returns true; each argument reads behind the call as it read before'; 0 by the template 'total and deterministic' (their statements: YtdbpimeaipgpfabGreatTotals.lean).
  GIVEN WITH THE SEED: the statements are not yours to turn. If you find one false, say at which input.
  Laid BY PROGRAM, IN A SANDBOX (cutbox-rows.mjs): the forced cells as the released guide's own fill.sh prints them over the translation 4e37154dd9e632f1… (all of the seat's roots in one cut). By AI agents, Wed Nov 11 2026. No macro, syntax, notation, axiom, sorry.
-/
import Derived.Test.YtdbpimeaipgpfabGreatChecked
import GoSem.Claim
import GoSem.ClaimJoined
import GoSem.ClaimMapViews
import Derived.JoinedTies
import Derived.KernelRfl
namespace Go.Proofs.YtdbpimeaipgpfabGreat
/- THE CELL 'sum', in the pinned program and in every row, IS THE sha256 OF THE DUMP (.gsa) THAT YtdbpimeaipgpfabGreatProg.lean LOADS. Nothing in Lean hashes anything: it is a label: what it is worth is what the hold of that sum in a sandbox is worth. -/
noncomputable def Tryz.pinned : Pinned := { name := "ytdbpimeaipgpfabgreat", sum := "4e37154dd9e632f15041d6fd3c60e9e4af7f3595caa769117cce27124101169e", checked := Tryz.checked }
namespace Rows
def none {H : Type} : Left H := { results := [], args := [] }

/-- 'laws.FnMachine': WHATEVER THE INPUT: true; the input reads as it did. -/
def fnMachineSpec : ChangeSpec := { name := "fnMachine", fn := fun _ => fun
  | [d] => { results := [.lit (.bool true)], args := [d] }
  | _ => none }
def fnMachineRow : OpenClaim := { program := "ytdbpimeaipgpfabgreat", sum := "4e37154dd9e632f15041d6fd3c60e9e4af7f3595caa769117cce27124101169e", func := "loop.example/g00339/laws.FnMachine", spec := "fnMachine", unfollowed := true, recurses := true, apart := false }
def FnMachineSaid : Prop := fnMachineRow.holds Tryz.pinned (OpenSpec.ofChange fnMachineSpec)

/-- ITS FALSE NEIGHBOUR: 'it returns false'. Refute it at one input. -/
def fnMachineWrong : ChangeSpec := { name := "fnMachine", fn := fun _ => fun
  | [d] => { results := [.lit (.bool false)], args := [d] }
  | _ => none }
def FnMachineWrongFalsely : Prop := fnMachineRow.holds Tryz.pinned (OpenSpec.ofChange fnMachineWrong)

/-- 'laws.FnMachineSteps': WHATEVER THE INPUT: true; the input reads as it did. -/
def fnMachineStepsSpec : ChangeSpec := { name := "fnMachineSteps", fn := fun _ => fun
  | [d1, d2] => { results := [.lit (.bool true)], args := [d1, d2] }
  | _ => none }
def fnMachineStepsRow : OpenClaim := { program := "ytdbpimeaipgpfabgreat", sum := "4e37154dd9e632f15041d6fd3c60e9e4af7f3595caa769117cce27124101169e", func := "loop.example/g00339/laws.FnMachineSteps", spec := "fnMachineSteps", unfollowed := true, recurses := true, apart := false }
def FnMachineStepsSaid : Prop := fnMachineStepsRow.holds Tryz.pinned (OpenSpec.ofChange fnMachineStepsSpec)

/-- ITS FALSE NEIGHBOUR: 'it returns false'. Refute it at one input. -/
def fnMachineStepsWrong : ChangeSpec := { name := "fnMachineSteps", fn := fun _ => fun
  | [d1, d2] => { results := [.lit (.bool false)], args := [d1, d2] }
  | _ => none }
def FnMachineStepsWrongFalsely : Prop := fnMachineStepsRow.holds Tryz.pinned (OpenSpec.ofChange fnMachineStepsWrong)

/-- 'laws.FnExactStepMachine': WHATEVER THE INPUT: true; the input reads as it did. -/
def fnExactStepMachineSpec : ChangeSpec := { name := "fnExactStepMachine", fn := fun _ => fun
  | [d1, d2] => { results := [.lit (.bool true)], args := [d1, d2] }
  | _ => none }
def fnExactStepMachineRow : OpenClaim := { program := "ytdbpimeaipgpfabgreat", sum := "4e37154dd9e632f15041d6fd3c60e9e4af7f3595caa769117cce27124101169e", func := "loop.example/g00339/laws.FnExactStepMachine", spec := "fnExactStepMachine", unfollowed := true, recurses := true, apart := false }
def FnExactStepMachineSaid : Prop := fnExactStepMachineRow.holds Tryz.pinned (OpenSpec.ofChange fnExactStepMachineSpec)

/-- ITS FALSE NEIGHBOUR: 'it returns false'. Refute it at one input. -/
def fnExactStepMachineWrong : ChangeSpec := { name := "fnExactStepMachine", fn := fun _ => fun
  | [d1, d2] => { results := [.lit (.bool false)], args := [d1, d2] }
  | _ => none }
def FnExactStepMachineWrongFalsely : Prop := fnExactStepMachineRow.holds Tryz.pinned (OpenSpec.ofChange fnExactStepMachineWrong)

/-- 'laws.FnTypes': WHATEVER THE INPUT: true; the input reads as it did. -/
def fnTypesSpec : ChangeSpec := { name := "fnTypes", fn := fun _ => fun
  | [d] => { results := [.lit (.bool true)], args := [d] }
  | _ => none }
def fnTypesRow : OpenClaim := { program := "ytdbpimeaipgpfabgreat", sum := "4e37154dd9e632f15041d6fd3c60e9e4af7f3595caa769117cce27124101169e", func := "loop.example/g00339/laws.FnTypes", spec := "fnTypes", unfollowed := true, recurses := true, apart := false }
def FnTypesSaid : Prop := fnTypesRow.holds Tryz.pinned (OpenSpec.ofChange fnTypesSpec)

/-- ITS FALSE NEIGHBOUR: 'it returns false'. Refute it at one input. -/
def fnTypesWrong : ChangeSpec := { name := "fnTypes", fn := fun _ => fun
  | [d] => { results := [.lit (.bool false)], args := [d] }
  | _ => none }
def FnTypesWrongFalsely : Prop := fnTypesRow.holds Tryz.pinned (OpenSpec.ofChange fnTypesWrong)

/- THE SECOND FORM. 'bulk': how many values and letters a reading holds, each counted each time it is reached (what is shared counts as often as it is met; a slice's spare places count too). A statement '..UptoSaid' is the law's where the arguments, and the package variables that the reading takes, are together of bulk at most 1048576: NARROWER than '..Said'. Prove '..Said' where nothing that the law and all that it calls make is longer than what came in: it says more and counts as full. Else prove '..UptoSaid'. A law counts once. -/
mutual
def uptoBulk {H : Type} : DataW H → Nat
  | .lit (.string bytes) => bytes.length + 1
  | .lit _ => 1
  | .nil => 1
  | .ptr d => uptoBulk d + 1
  | .slice elems spare => uptoBulkAll elems + uptoBulkAll spare + 1
  | .agg parts => uptoBulkAll parts + 1
  | .iface _ d => uptoBulk d + 1
  | .map entries => uptoBulkEntries entries + 1
  | .held _ => 1
def uptoBulkAll {H : Type} : List (DataW H) → Nat
  | [] => 0
  | d :: r => uptoBulk d + uptoBulkAll r
def uptoBulkEntries {H : Type} : List (Lit × DataW H) → Nat
  | [] => 0
  | x :: r => uptoBulkEntry x + uptoBulkEntries r
def uptoBulkEntry {H : Type} : Lit × DataW H → Nat
  | (.string bytes, d) => bytes.length + uptoBulk d + 1
  | (_, d) => uptoBulk d + 1
 end
def uptoSmall : (H : Type) → List (DataW H) → Bool := fun _ ds => decide (uptoBulkAll ds ≤ 1048576)
def OpenSpec.upto (s : _root_.Go.ChangeSpec) : _root_.Go.OpenSpec := { _root_.Go.OpenSpec.ofChange s with cond := some uptoSmall }

/-- 'laws.FnMachine', WHERE WHAT IT READS IS OF BULK AT MOST 1048576: true; the input reads as it did. -/
def fnMachineUptoRow : OpenClaim := { program := "ytdbpimeaipgpfabgreat", sum := "4e37154dd9e632f15041d6fd3c60e9e4af7f3595caa769117cce27124101169e", func := "loop.example/g00339/laws.FnMachine", spec := "fnMachine", unfollowed := true, recurses := true, apart := false, narrowed := true }
def FnMachineUptoSaid : Prop := fnMachineUptoRow.holds Tryz.pinned (OpenSpec.upto fnMachineSpec)

/-- 'laws.FnMachineSteps', WHERE WHAT IT READS IS OF BULK AT MOST 1048576: true; the input reads as it did. -/
def fnMachineStepsUptoRow : OpenClaim := { program := "ytdbpimeaipgpfabgreat", sum := "4e37154dd9e632f15041d6fd3c60e9e4af7f3595caa769117cce27124101169e", func := "loop.example/g00339/laws.FnMachineSteps", spec := "fnMachineSteps", unfollowed := true, recurses := true, apart := false, narrowed := true }
def FnMachineStepsUptoSaid : Prop := fnMachineStepsUptoRow.holds Tryz.pinned (OpenSpec.upto fnMachineStepsSpec)

/-- 'laws.FnExactStepMachine', WHERE WHAT IT READS IS OF BULK AT MOST 1048576: true; the input reads as it did. -/
def fnExactStepMachineUptoRow : OpenClaim := { program := "ytdbpimeaipgpfabgreat", sum := "4e37154dd9e632f15041d6fd3c60e9e4af7f3595caa769117cce27124101169e", func := "loop.example/g00339/laws.FnExactStepMachine", spec := "fnExactStepMachine", unfollowed := true, recurses := true, apart := false, narrowed := true }
def FnExactStepMachineUptoSaid : Prop := fnExactStepMachineUptoRow.holds Tryz.pinned (OpenSpec.upto fnExactStepMachineSpec)

/-- 'laws.FnTypes', WHERE WHAT IT READS IS OF BULK AT MOST 1048576: true; the input reads as it did. -/
def fnTypesUptoRow : OpenClaim := { program := "ytdbpimeaipgpfabgreat", sum := "4e37154dd9e632f15041d6fd3c60e9e4af7f3595caa769117cce27124101169e", func := "loop.example/g00339/laws.FnTypes", spec := "fnTypes", unfollowed := true, recurses := true, apart := false, narrowed := true }
def FnTypesUptoSaid : Prop := fnTypesUptoRow.holds Tryz.pinned (OpenSpec.upto fnTypesSpec)

end Rows
end Go.Proofs.YtdbpimeaipgpfabGreat
