/-
  No cell of these rows narrows 'for every input' (looked for: loops, veiled, ifaces, maps, wideKeys, modest, calm, conditions, laid).
  DERIVED. THE GIVEN ROWS OF THIS SEAT. 6 by the template 'for every input the law returns true; each argument reads behind the call as it read before'; 0 by the template 'total and deterministic' (their statements: YtoinanmhigafgaaTotals.lean).
  GIVEN WITH THE SEED: the statements are not yours to turn. If you find one false, say at which input.
  Laid BY PROGRAM, IN A SANDBOX (cutbox-rows.mjs): the forced cells as the released guide's own fill.sh prints them over the translation f2d4f45de6db6fa3… (all of the seat's roots in one cut). By AI agents, Wed Nov 11 2026. No macro, syntax, notation, axiom, sorry.
-/
import Derived.Test.YtoinanmhigafgaaChecked
import GoSem.Claim
import GoSem.ClaimJoined
import GoSem.ClaimMapViews
import Derived.JoinedTies
import Derived.KernelRfl
namespace Go.Proofs.Ytoinanmhigafgaa
/- THE CELL 'sum', in the pinned program and in every row, IS THE sha256 OF THE DUMP (.gsa) THAT YtoinanmhigafgaaProg.lean LOADS. Nothing in Lean hashes anything: it is a label: what it is worth is what the hold of that sum in a sandbox is worth. -/
noncomputable def Try.pinned : Pinned := { name := "ytoinanmhigafgaa", sum := "f2d4f45de6db6fa31966b9632b3cb55f4b00ce5a0b10ec0c2927920f02c9a50b", checked := Try.checked }
namespace Rows
def none {H : Type} : Left H := { results := [], args := [] }

/-- 'laws.FnExactGoodProgram': WHATEVER THE INPUT: true; the input reads as it did. -/
def fnExactGoodProgramSpec : ChangeSpec := { name := "fnExactGoodProgram", fn := fun _ => fun
  | [d] => { results := [.lit (.bool true)], args := [d] }
  | _ => none }
def fnExactGoodProgramRow : OpenClaim := { program := "ytoinanmhigafgaa", sum := "f2d4f45de6db6fa31966b9632b3cb55f4b00ce5a0b10ec0c2927920f02c9a50b", func := "loop.example/g00339/laws.FnExactGoodProgram", spec := "fnExactGoodProgram", unfollowed := true, recurses := true, apart := false }
def FnExactGoodProgramSaid : Prop := fnExactGoodProgramRow.holds Try.pinned (OpenSpec.ofChange fnExactGoodProgramSpec)

/-- ITS FALSE NEIGHBOUR: 'it returns false'. Refute it at one input. -/
def fnExactGoodProgramWrong : ChangeSpec := { name := "fnExactGoodProgram", fn := fun _ => fun
  | [d] => { results := [.lit (.bool false)], args := [d] }
  | _ => none }
def FnExactGoodProgramWrongFalsely : Prop := fnExactGoodProgramRow.holds Try.pinned (OpenSpec.ofChange fnExactGoodProgramWrong)

/-- 'laws.FnExactMakeExpr': WHATEVER THE INPUT: true; the input reads as it did. -/
def fnExactMakeExprSpec : ChangeSpec := { name := "fnExactMakeExpr", fn := fun _ => fun
  | [d] => { results := [.lit (.bool true)], args := [d] }
  | _ => none }
def fnExactMakeExprRow : OpenClaim := { program := "ytoinanmhigafgaa", sum := "f2d4f45de6db6fa31966b9632b3cb55f4b00ce5a0b10ec0c2927920f02c9a50b", func := "loop.example/g00339/laws.FnExactMakeExpr", spec := "fnExactMakeExpr", unfollowed := true, recurses := true, apart := false }
def FnExactMakeExprSaid : Prop := fnExactMakeExprRow.holds Try.pinned (OpenSpec.ofChange fnExactMakeExprSpec)

/-- ITS FALSE NEIGHBOUR: 'it returns false'. Refute it at one input. -/
def fnExactMakeExprWrong : ChangeSpec := { name := "fnExactMakeExpr", fn := fun _ => fun
  | [d] => { results := [.lit (.bool false)], args := [d] }
  | _ => none }
def FnExactMakeExprWrongFalsely : Prop := fnExactMakeExprRow.holds Try.pinned (OpenSpec.ofChange fnExactMakeExprWrong)

/-- 'laws.FnExactFoldExpr': WHATEVER THE INPUT: true; the input reads as it did. -/
def fnExactFoldExprSpec : ChangeSpec := { name := "fnExactFoldExpr", fn := fun _ => fun
  | [d] => { results := [.lit (.bool true)], args := [d] }
  | _ => none }
def fnExactFoldExprRow : OpenClaim := { program := "ytoinanmhigafgaa", sum := "f2d4f45de6db6fa31966b9632b3cb55f4b00ce5a0b10ec0c2927920f02c9a50b", func := "loop.example/g00339/laws.FnExactFoldExpr", spec := "fnExactFoldExpr", unfollowed := true, recurses := true, apart := false }
def FnExactFoldExprSaid : Prop := fnExactFoldExprRow.holds Try.pinned (OpenSpec.ofChange fnExactFoldExprSpec)

/-- ITS FALSE NEIGHBOUR: 'it returns false'. Refute it at one input. -/
def fnExactFoldExprWrong : ChangeSpec := { name := "fnExactFoldExpr", fn := fun _ => fun
  | [d] => { results := [.lit (.bool false)], args := [d] }
  | _ => none }
def FnExactFoldExprWrongFalsely : Prop := fnExactFoldExprRow.holds Try.pinned (OpenSpec.ofChange fnExactFoldExprWrong)

/-- 'laws.FnExactMakeCode': WHATEVER THE INPUT: true; the input reads as it did. -/
def fnExactMakeCodeSpec : ChangeSpec := { name := "fnExactMakeCode", fn := fun _ => fun
  | [d] => { results := [.lit (.bool true)], args := [d] }
  | _ => none }
def fnExactMakeCodeRow : OpenClaim := { program := "ytoinanmhigafgaa", sum := "f2d4f45de6db6fa31966b9632b3cb55f4b00ce5a0b10ec0c2927920f02c9a50b", func := "loop.example/g00339/laws.FnExactMakeCode", spec := "fnExactMakeCode", unfollowed := true, recurses := true, apart := false }
def FnExactMakeCodeSaid : Prop := fnExactMakeCodeRow.holds Try.pinned (OpenSpec.ofChange fnExactMakeCodeSpec)

/-- ITS FALSE NEIGHBOUR: 'it returns false'. Refute it at one input. -/
def fnExactMakeCodeWrong : ChangeSpec := { name := "fnExactMakeCode", fn := fun _ => fun
  | [d] => { results := [.lit (.bool false)], args := [d] }
  | _ => none }
def FnExactMakeCodeWrongFalsely : Prop := fnExactMakeCodeRow.holds Try.pinned (OpenSpec.ofChange fnExactMakeCodeWrong)

/-- 'laws.FnExactRunProgram': WHATEVER THE INPUT: true; the input reads as it did. -/
def fnExactRunProgramSpec : ChangeSpec := { name := "fnExactRunProgram", fn := fun _ => fun
  | [d1, d2, d3] => { results := [.lit (.bool true)], args := [d1, d2, d3] }
  | _ => none }
def fnExactRunProgramRow : OpenClaim := { program := "ytoinanmhigafgaa", sum := "f2d4f45de6db6fa31966b9632b3cb55f4b00ce5a0b10ec0c2927920f02c9a50b", func := "loop.example/g00339/laws.FnExactRunProgram", spec := "fnExactRunProgram", unfollowed := true, recurses := true, apart := false }
def FnExactRunProgramSaid : Prop := fnExactRunProgramRow.holds Try.pinned (OpenSpec.ofChange fnExactRunProgramSpec)

/-- ITS FALSE NEIGHBOUR: 'it returns false'. Refute it at one input. -/
def fnExactRunProgramWrong : ChangeSpec := { name := "fnExactRunProgram", fn := fun _ => fun
  | [d1, d2, d3] => { results := [.lit (.bool false)], args := [d1, d2, d3] }
  | _ => none }
def FnExactRunProgramWrongFalsely : Prop := fnExactRunProgramRow.holds Try.pinned (OpenSpec.ofChange fnExactRunProgramWrong)

/-- 'laws.FnExactRunMade': WHATEVER THE INPUT: true; the input reads as it did. -/
def fnExactRunMadeSpec : ChangeSpec := { name := "fnExactRunMade", fn := fun _ => fun
  | [d1, d2, d3] => { results := [.lit (.bool true)], args := [d1, d2, d3] }
  | _ => none }
def fnExactRunMadeRow : OpenClaim := { program := "ytoinanmhigafgaa", sum := "f2d4f45de6db6fa31966b9632b3cb55f4b00ce5a0b10ec0c2927920f02c9a50b", func := "loop.example/g00339/laws.FnExactRunMade", spec := "fnExactRunMade", unfollowed := true, recurses := true, apart := false }
def FnExactRunMadeSaid : Prop := fnExactRunMadeRow.holds Try.pinned (OpenSpec.ofChange fnExactRunMadeSpec)

/-- ITS FALSE NEIGHBOUR: 'it returns false'. Refute it at one input. -/
def fnExactRunMadeWrong : ChangeSpec := { name := "fnExactRunMade", fn := fun _ => fun
  | [d1, d2, d3] => { results := [.lit (.bool false)], args := [d1, d2, d3] }
  | _ => none }
def FnExactRunMadeWrongFalsely : Prop := fnExactRunMadeRow.holds Try.pinned (OpenSpec.ofChange fnExactRunMadeWrong)

/- THE SECOND FORM. 'bulk': how many values and letters a reading holds, each counted each time it is reached (what is shared counts as often as it is met; a slice's spare places count too). A statement '..UptoSaid' is the law's where the arguments, and the package variables that the reading takes, are together of bulk at most 1048576: NARROWER than '..Said'. Prove '..Said' where nothing that the law and all that it calls make is longer than what came in: it says more and counts as full. Else prove '..UptoSaid'. A law counts once. -/
mutual
def uptoBulk {H : Type} : DataW H → Nat
  | .lit (.string bytes) => bytes.length + 1
  | .lit _ => 1
  | .nil => 1
  | .ptr d => uptoBulk d + 1
  | .slice elems spare => uptoBulkAll elems + uptoBulkAll spare + 1
  | .agg parts => uptoBulkAll parts + 1
  | .iface _ d => uptoBulk d + 1
  | .map entries => uptoBulkEntries entries + 1
  | .held _ => 1
def uptoBulkAll {H : Type} : List (DataW H) → Nat
  | [] => 0
  | d :: r => uptoBulk d + uptoBulkAll r
def uptoBulkEntries {H : Type} : List (Lit × DataW H) → Nat
  | [] => 0
  | x :: r => uptoBulkEntry x + uptoBulkEntries r
def uptoBulkEntry {H : Type} : Lit × DataW H → Nat
  | (.string bytes, d) => bytes.length + uptoBulk d + 1
  | (_, d) => uptoBulk d + 1
 end
def uptoSmall : (H : Type) → List (DataW H) → Bool := fun _ ds => decide (uptoBulkAll ds ≤ 1048576)
def OpenSpec.upto (s : _root_.Go.ChangeSpec) : _root_.Go.OpenSpec := { _root_.Go.OpenSpec.ofChange s with cond := some uptoSmall }

/-- 'laws.FnExactGoodProgram', WHERE WHAT IT READS IS OF BULK AT MOST 1048576: true; the input reads as it did. -/
def fnExactGoodProgramUptoRow : OpenClaim := { program := "ytoinanmhigafgaa", sum := "f2d4f45de6db6fa31966b9632b3cb55f4b00ce5a0b10ec0c2927920f02c9a50b", func := "loop.example/g00339/laws.FnExactGoodProgram", spec := "fnExactGoodProgram", unfollowed := true, recurses := true, apart := false, narrowed := true }
def FnExactGoodProgramUptoSaid : Prop := fnExactGoodProgramUptoRow.holds Try.pinned (OpenSpec.upto fnExactGoodProgramSpec)

/-- 'laws.FnExactMakeExpr', WHERE WHAT IT READS IS OF BULK AT MOST 1048576: true; the input reads as it did. -/
def fnExactMakeExprUptoRow : OpenClaim := { program := "ytoinanmhigafgaa", sum := "f2d4f45de6db6fa31966b9632b3cb55f4b00ce5a0b10ec0c2927920f02c9a50b", func := "loop.example/g00339/laws.FnExactMakeExpr", spec := "fnExactMakeExpr", unfollowed := true, recurses := true, apart := false, narrowed := true }
def FnExactMakeExprUptoSaid : Prop := fnExactMakeExprUptoRow.holds Try.pinned (OpenSpec.upto fnExactMakeExprSpec)

/-- 'laws.FnExactFoldExpr', WHERE WHAT IT READS IS OF BULK AT MOST 1048576: true; the input reads as it did. -/
def fnExactFoldExprUptoRow : OpenClaim := { program := "ytoinanmhigafgaa", sum := "f2d4f45de6db6fa31966b9632b3cb55f4b00ce5a0b10ec0c2927920f02c9a50b", func := "loop.example/g00339/laws.FnExactFoldExpr", spec := "fnExactFoldExpr", unfollowed := true, recurses := true, apart := false, narrowed := true }
def FnExactFoldExprUptoSaid : Prop := fnExactFoldExprUptoRow.holds Try.pinned (OpenSpec.upto fnExactFoldExprSpec)

/-- 'laws.FnExactMakeCode', WHERE WHAT IT READS IS OF BULK AT MOST 1048576: true; the input reads as it did. -/
def fnExactMakeCodeUptoRow : OpenClaim := { program := "ytoinanmhigafgaa", sum := "f2d4f45de6db6fa31966b9632b3cb55f4b00ce5a0b10ec0c2927920f02c9a50b", func := "loop.example/g00339/laws.FnExactMakeCode", spec := "fnExactMakeCode", unfollowed := true, recurses := true, apart := false, narrowed := true }
def FnExactMakeCodeUptoSaid : Prop := fnExactMakeCodeUptoRow.holds Try.pinned (OpenSpec.upto fnExactMakeCodeSpec)

/-- 'laws.FnExactRunProgram', WHERE WHAT IT READS IS OF BULK AT MOST 1048576: true; the input reads as it did. -/
def fnExactRunProgramUptoRow : OpenClaim := { program := "ytoinanmhigafgaa", sum := "f2d4f45de6db6fa31966b9632b3cb55f4b00ce5a0b10ec0c2927920f02c9a50b", func := "loop.example/g00339/laws.FnExactRunProgram", spec := "fnExactRunProgram", unfollowed := true, recurses := true, apart := false, narrowed := true }
def FnExactRunProgramUptoSaid : Prop := fnExactRunProgramUptoRow.holds Try.pinned (OpenSpec.upto fnExactRunProgramSpec)

/-- 'laws.FnExactRunMade', WHERE WHAT IT READS IS OF BULK AT MOST 1048576: true; the input reads as it did. -/
def fnExactRunMadeUptoRow : OpenClaim := { program := "ytoinanmhigafgaa", sum := "f2d4f45de6db6fa31966b9632b3cb55f4b00ce5a0b10ec0c2927920f02c9a50b", func := "loop.example/g00339/laws.FnExactRunMade", spec := "fnExactRunMade", unfollowed := true, recurses := true, apart := false, narrowed := true }
def FnExactRunMadeUptoSaid : Prop := fnExactRunMadeUptoRow.holds Try.pinned (OpenSpec.upto fnExactRunMadeSpec)

end Rows
end Go.Proofs.Ytoinanmhigafgaa
