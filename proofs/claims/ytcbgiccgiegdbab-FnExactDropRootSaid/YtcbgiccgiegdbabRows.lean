/-
  No cell of these rows narrows 'for every input' (looked for: loops, veiled, ifaces, maps, wideKeys, modest, calm, conditions, laid).
  DERIVED. THE GIVEN ROWS OF THIS SEAT. 6 by the template 'for every input the law returns true; each argument reads behind the call as it read before'; 0 by the template 'total and deterministic' (their statements: YtcbgiccgiegdbabTotals.lean).
  GIVEN WITH THE SEED: the statements are not yours to turn. If you find one false, say at which input.
  Laid BY PROGRAM, IN A SANDBOX (cutbox-rows.mjs): the forced cells as the released guide's own fill.sh prints them over the translation c666b3de8371501a… (all of the seat's roots in one cut). By AI agents, Wed Nov 11 2026. No macro, syntax, notation, axiom, sorry.
-/
import Derived.Test.YtcbgiccgiegdbabChecked
import GoSem.Claim
import GoSem.ClaimJoined
import GoSem.ClaimMapViews
import Derived.JoinedTies
import Derived.KernelRfl
namespace Go.Proofs.Ytcbgiccgiegdbab
/- THE CELL 'sum', in the pinned program and in every row, IS THE sha256 OF THE DUMP (.gsa) THAT YtcbgiccgiegdbabProg.lean LOADS. Nothing in Lean hashes anything: it is a label: what it is worth is what the hold of that sum in a sandbox is worth. -/
noncomputable def Try.pinned : Pinned := { name := "ytcbgiccgiegdbab", sum := "c666b3de8371501abadf9f0cd497d005a496781f4a2f62bfc0841a1542d0e1d9", checked := Try.checked }
namespace Rows
def none {H : Type} : Left H := { results := [], args := [] }

/-- 'laws.FnExactCodeBytes': WHATEVER THE INPUT: true; the input reads as it did. -/
def fnExactCodeBytesSpec : ChangeSpec := { name := "fnExactCodeBytes", fn := fun _ => fun
  | [d] => { results := [.lit (.bool true)], args := [d] }
  | _ => none }
def fnExactCodeBytesRow : OpenClaim := { program := "ytcbgiccgiegdbab", sum := "c666b3de8371501abadf9f0cd497d005a496781f4a2f62bfc0841a1542d0e1d9", func := "loop.example/g00339/laws.FnExactCodeBytes", spec := "fnExactCodeBytes", unfollowed := true, recurses := true, apart := false }
def FnExactCodeBytesSaid : Prop := fnExactCodeBytesRow.holds Try.pinned (OpenSpec.ofChange fnExactCodeBytesSpec)

/-- ITS FALSE NEIGHBOUR: 'it returns false'. Refute it at one input. -/
def fnExactCodeBytesWrong : ChangeSpec := { name := "fnExactCodeBytes", fn := fun _ => fun
  | [d] => { results := [.lit (.bool false)], args := [d] }
  | _ => none }
def FnExactCodeBytesWrongFalsely : Prop := fnExactCodeBytesRow.holds Try.pinned (OpenSpec.ofChange fnExactCodeBytesWrong)

/-- 'laws.FnExactDropRoot': WHATEVER THE INPUT: true; the input reads as it did. -/
def fnExactDropRootSpec : ChangeSpec := { name := "fnExactDropRoot", fn := fun _ => fun
  | [d1, d2] => { results := [.lit (.bool true)], args := [d1, d2] }
  | _ => none }
def fnExactDropRootRow : OpenClaim := { program := "ytcbgiccgiegdbab", sum := "c666b3de8371501abadf9f0cd497d005a496781f4a2f62bfc0841a1542d0e1d9", func := "loop.example/g00339/laws.FnExactDropRoot", spec := "fnExactDropRoot", unfollowed := true, recurses := true, apart := false }
def FnExactDropRootSaid : Prop := fnExactDropRootRow.holds Try.pinned (OpenSpec.ofChange fnExactDropRootSpec)

/-- ITS FALSE NEIGHBOUR: 'it returns false'. Refute it at one input. -/
def fnExactDropRootWrong : ChangeSpec := { name := "fnExactDropRoot", fn := fun _ => fun
  | [d1, d2] => { results := [.lit (.bool false)], args := [d1, d2] }
  | _ => none }
def FnExactDropRootWrongFalsely : Prop := fnExactDropRootRow.holds Try.pinned (OpenSpec.ofChange fnExactDropRootWrong)

/-- 'laws.FnExactSetLink': WHATEVER THE INPUT: true; the input reads as it did. -/
def fnExactSetLinkSpec : ChangeSpec := { name := "fnExactSetLink", fn := fun _ => fun
  | [d1, d2, d3, d4] => { results := [.lit (.bool true)], args := [d1, d2, d3, d4] }
  | _ => none }
def fnExactSetLinkRow : OpenClaim := { program := "ytcbgiccgiegdbab", sum := "c666b3de8371501abadf9f0cd497d005a496781f4a2f62bfc0841a1542d0e1d9", func := "loop.example/g00339/laws.FnExactSetLink", spec := "fnExactSetLink", unfollowed := true, recurses := true, apart := false }
def FnExactSetLinkSaid : Prop := fnExactSetLinkRow.holds Try.pinned (OpenSpec.ofChange fnExactSetLinkSpec)

/-- ITS FALSE NEIGHBOUR: 'it returns false'. Refute it at one input. -/
def fnExactSetLinkWrong : ChangeSpec := { name := "fnExactSetLink", fn := fun _ => fun
  | [d1, d2, d3, d4] => { results := [.lit (.bool false)], args := [d1, d2, d3, d4] }
  | _ => none }
def FnExactSetLinkWrongFalsely : Prop := fnExactSetLinkRow.holds Try.pinned (OpenSpec.ofChange fnExactSetLinkWrong)

/-- 'laws.FnExactNewObject': WHATEVER THE INPUT: true; the input reads as it did. -/
def fnExactNewObjectSpec : ChangeSpec := { name := "fnExactNewObject", fn := fun _ => fun
  | [d1, d2, d3] => { results := [.lit (.bool true)], args := [d1, d2, d3] }
  | _ => none }
def fnExactNewObjectRow : OpenClaim := { program := "ytcbgiccgiegdbab", sum := "c666b3de8371501abadf9f0cd497d005a496781f4a2f62bfc0841a1542d0e1d9", func := "loop.example/g00339/laws.FnExactNewObject", spec := "fnExactNewObject", unfollowed := true, recurses := true, apart := false }
def FnExactNewObjectSaid : Prop := fnExactNewObjectRow.holds Try.pinned (OpenSpec.ofChange fnExactNewObjectSpec)

/-- ITS FALSE NEIGHBOUR: 'it returns false'. Refute it at one input. -/
def fnExactNewObjectWrong : ChangeSpec := { name := "fnExactNewObject", fn := fun _ => fun
  | [d1, d2, d3] => { results := [.lit (.bool false)], args := [d1, d2, d3] }
  | _ => none }
def FnExactNewObjectWrongFalsely : Prop := fnExactNewObjectRow.holds Try.pinned (OpenSpec.ofChange fnExactNewObjectWrong)

/-- 'laws.FnExactReadCode': WHATEVER THE INPUT: true; the input reads as it did. -/
def fnExactReadCodeSpec : ChangeSpec := { name := "fnExactReadCode", fn := fun _ => fun
  | [d] => { results := [.lit (.bool true)], args := [d] }
  | _ => none }
def fnExactReadCodeRow : OpenClaim := { program := "ytcbgiccgiegdbab", sum := "c666b3de8371501abadf9f0cd497d005a496781f4a2f62bfc0841a1542d0e1d9", func := "loop.example/g00339/laws.FnExactReadCode", spec := "fnExactReadCode", unfollowed := true, recurses := true, apart := false }
def FnExactReadCodeSaid : Prop := fnExactReadCodeRow.holds Try.pinned (OpenSpec.ofChange fnExactReadCodeSpec)

/-- ITS FALSE NEIGHBOUR: 'it returns false'. Refute it at one input. -/
def fnExactReadCodeWrong : ChangeSpec := { name := "fnExactReadCode", fn := fun _ => fun
  | [d] => { results := [.lit (.bool false)], args := [d] }
  | _ => none }
def FnExactReadCodeWrongFalsely : Prop := fnExactReadCodeRow.holds Try.pinned (OpenSpec.ofChange fnExactReadCodeWrong)

/-- 'laws.FnExactReachOf': WHATEVER THE INPUT: true; the input reads as it did. -/
def fnExactReachOfSpec : ChangeSpec := { name := "fnExactReachOf", fn := fun _ => fun
  | [d] => { results := [.lit (.bool true)], args := [d] }
  | _ => none }
def fnExactReachOfRow : OpenClaim := { program := "ytcbgiccgiegdbab", sum := "c666b3de8371501abadf9f0cd497d005a496781f4a2f62bfc0841a1542d0e1d9", func := "loop.example/g00339/laws.FnExactReachOf", spec := "fnExactReachOf", unfollowed := true, recurses := true, apart := false }
def FnExactReachOfSaid : Prop := fnExactReachOfRow.holds Try.pinned (OpenSpec.ofChange fnExactReachOfSpec)

/-- ITS FALSE NEIGHBOUR: 'it returns false'. Refute it at one input. -/
def fnExactReachOfWrong : ChangeSpec := { name := "fnExactReachOf", fn := fun _ => fun
  | [d] => { results := [.lit (.bool false)], args := [d] }
  | _ => none }
def FnExactReachOfWrongFalsely : Prop := fnExactReachOfRow.holds Try.pinned (OpenSpec.ofChange fnExactReachOfWrong)

/- THE SECOND FORM. 'bulk': how many values and letters a reading holds, each counted each time it is reached (what is shared counts as often as it is met; a slice's spare places count too). A statement '..UptoSaid' is the law's where the arguments, and the package variables that the reading takes, are together of bulk at most 1048576: NARROWER than '..Said'. Prove '..Said' where nothing that the law and all that it calls make is longer than what came in: it says more and counts as full. Else prove '..UptoSaid'. A law counts once. -/
mutual
def uptoBulk {H : Type} : DataW H → Nat
  | .lit (.string bytes) => bytes.length + 1
  | .lit _ => 1
  | .nil => 1
  | .ptr d => uptoBulk d + 1
  | .slice elems spare => uptoBulkAll elems + uptoBulkAll spare + 1
  | .agg parts => uptoBulkAll parts + 1
  | .iface _ d => uptoBulk d + 1
  | .map entries => uptoBulkEntries entries + 1
  | .held _ => 1
def uptoBulkAll {H : Type} : List (DataW H) → Nat
  | [] => 0
  | d :: r => uptoBulk d + uptoBulkAll r
def uptoBulkEntries {H : Type} : List (Lit × DataW H) → Nat
  | [] => 0
  | x :: r => uptoBulkEntry x + uptoBulkEntries r
def uptoBulkEntry {H : Type} : Lit × DataW H → Nat
  | (.string bytes, d) => bytes.length + uptoBulk d + 1
  | (_, d) => uptoBulk d + 1
 end
def uptoSmall : (H : Type) → List (DataW H) → Bool := fun _ ds => decide (uptoBulkAll ds ≤ 1048576)
def OpenSpec.upto (s : _root_.Go.ChangeSpec) : _root_.Go.OpenSpec := { _root_.Go.OpenSpec.ofChange s with cond := some uptoSmall }

/-- 'laws.FnExactCodeBytes', WHERE WHAT IT READS IS OF BULK AT MOST 1048576: true; the input reads as it did. -/
def fnExactCodeBytesUptoRow : OpenClaim := { program := "ytcbgiccgiegdbab", sum := "c666b3de8371501abadf9f0cd497d005a496781f4a2f62bfc0841a1542d0e1d9", func := "loop.example/g00339/laws.FnExactCodeBytes", spec := "fnExactCodeBytes", unfollowed := true, recurses := true, apart := false, narrowed := true }
def FnExactCodeBytesUptoSaid : Prop := fnExactCodeBytesUptoRow.holds Try.pinned (OpenSpec.upto fnExactCodeBytesSpec)

/-- 'laws.FnExactDropRoot', WHERE WHAT IT READS IS OF BULK AT MOST 1048576: true; the input reads as it did. -/
def fnExactDropRootUptoRow : OpenClaim := { program := "ytcbgiccgiegdbab", sum := "c666b3de8371501abadf9f0cd497d005a496781f4a2f62bfc0841a1542d0e1d9", func := "loop.example/g00339/laws.FnExactDropRoot", spec := "fnExactDropRoot", unfollowed := true, recurses := true, apart := false, narrowed := true }
def FnExactDropRootUptoSaid : Prop := fnExactDropRootUptoRow.holds Try.pinned (OpenSpec.upto fnExactDropRootSpec)

/-- 'laws.FnExactSetLink', WHERE WHAT IT READS IS OF BULK AT MOST 1048576: true; the input reads as it did. -/
def fnExactSetLinkUptoRow : OpenClaim := { program := "ytcbgiccgiegdbab", sum := "c666b3de8371501abadf9f0cd497d005a496781f4a2f62bfc0841a1542d0e1d9", func := "loop.example/g00339/laws.FnExactSetLink", spec := "fnExactSetLink", unfollowed := true, recurses := true, apart := false, narrowed := true }
def FnExactSetLinkUptoSaid : Prop := fnExactSetLinkUptoRow.holds Try.pinned (OpenSpec.upto fnExactSetLinkSpec)

/-- 'laws.FnExactNewObject', WHERE WHAT IT READS IS OF BULK AT MOST 1048576: true; the input reads as it did. -/
def fnExactNewObjectUptoRow : OpenClaim := { program := "ytcbgiccgiegdbab", sum := "c666b3de8371501abadf9f0cd497d005a496781f4a2f62bfc0841a1542d0e1d9", func := "loop.example/g00339/laws.FnExactNewObject", spec := "fnExactNewObject", unfollowed := true, recurses := true, apart := false, narrowed := true }
def FnExactNewObjectUptoSaid : Prop := fnExactNewObjectUptoRow.holds Try.pinned (OpenSpec.upto fnExactNewObjectSpec)

/-- 'laws.FnExactReadCode', WHERE WHAT IT READS IS OF BULK AT MOST 1048576: true; the input reads as it did. -/
def fnExactReadCodeUptoRow : OpenClaim := { program := "ytcbgiccgiegdbab", sum := "c666b3de8371501abadf9f0cd497d005a496781f4a2f62bfc0841a1542d0e1d9", func := "loop.example/g00339/laws.FnExactReadCode", spec := "fnExactReadCode", unfollowed := true, recurses := true, apart := false, narrowed := true }
def FnExactReadCodeUptoSaid : Prop := fnExactReadCodeUptoRow.holds Try.pinned (OpenSpec.upto fnExactReadCodeSpec)

/-- 'laws.FnExactReachOf', WHERE WHAT IT READS IS OF BULK AT MOST 1048576: true; the input reads as it did. -/
def fnExactReachOfUptoRow : OpenClaim := { program := "ytcbgiccgiegdbab", sum := "c666b3de8371501abadf9f0cd497d005a496781f4a2f62bfc0841a1542d0e1d9", func := "loop.example/g00339/laws.FnExactReachOf", spec := "fnExactReachOf", unfollowed := true, recurses := true, apart := false, narrowed := true }
def FnExactReachOfUptoSaid : Prop := fnExactReachOfUptoRow.holds Try.pinned (OpenSpec.upto fnExactReachOfSpec)

end Rows
end Go.Proofs.Ytcbgiccgiegdbab
