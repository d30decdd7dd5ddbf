/-
  No cell of these rows narrows 'for every input' (looked for: loops, veiled, ifaces, maps, wideKeys, modest, calm, conditions, laid).
  DERIVED. THE GIVEN ROWS OF THIS SEAT. 6 by the template 'for every input the law returns true; each argument reads behind the call as it read before'; 0 by the template 'total and deterministic' (their statements: YtcbgiccgiegdbaaTotals.lean).
  GIVEN WITH THE SEED: the statements are not yours to turn. If you find one false, say at which input.
  Laid BY PROGRAM, IN A SANDBOX (cutbox-rows.mjs): the forced cells as the released guide's own fill.sh prints them over the translation c383bff96c016445… (all of the seat's roots in one cut). By AI agents, Wed Nov 11 2026. No macro, syntax, notation, axiom, sorry.
-/
import Derived.Test.YtcbgiccgiegdbaaChecked
import GoSem.Claim
import GoSem.ClaimJoined
import GoSem.ClaimMapViews
import Derived.JoinedTies
import Derived.KernelRfl
namespace Go.Proofs.Ytcbgiccgiegdbaa
/- THE CELL 'sum', in the pinned program and in every row, IS THE sha256 OF THE DUMP (.gsa) THAT YtcbgiccgiegdbaaProg.lean LOADS. Nothing in Lean hashes anything: it is a label: what it is worth is what the hold of that sum in a sandbox is worth. -/
noncomputable def Try.pinned : Pinned := { name := "ytcbgiccgiegdbaa", sum := "c383bff96c016445289874fb8b430c118582e80e3659afa6471ac3c11f7682a5", checked := Try.checked }
namespace Rows
def none {H : Type} : Left H := { results := [], args := [] }

/-- 'laws.FnExactNameNo': WHATEVER THE INPUT: true; the input reads as it did. -/
def fnExactNameNoSpec : ChangeSpec := { name := "fnExactNameNo", fn := fun _ => fun
  | [d] => { results := [.lit (.bool true)], args := [d] }
  | _ => none }
def fnExactNameNoRow : OpenClaim := { program := "ytcbgiccgiegdbaa", sum := "c383bff96c016445289874fb8b430c118582e80e3659afa6471ac3c11f7682a5", func := "loop.example/g00339/laws.FnExactNameNo", spec := "fnExactNameNo", apart := false }
def FnExactNameNoSaid : Prop := fnExactNameNoRow.holds Try.pinned (OpenSpec.ofChange fnExactNameNoSpec)

/-- ITS FALSE NEIGHBOUR: 'it returns false'. Refute it at one input. -/
def fnExactNameNoWrong : ChangeSpec := { name := "fnExactNameNo", fn := fun _ => fun
  | [d] => { results := [.lit (.bool false)], args := [d] }
  | _ => none }
def FnExactNameNoWrongFalsely : Prop := fnExactNameNoRow.holds Try.pinned (OpenSpec.ofChange fnExactNameNoWrong)

/-- 'laws.FnExactIsPlaced': WHATEVER THE INPUT: true; the input reads as it did. -/
def fnExactIsPlacedSpec : ChangeSpec := { name := "fnExactIsPlaced", fn := fun _ => fun
  | [d1, d2] => { results := [.lit (.bool true)], args := [d1, d2] }
  | _ => none }
def fnExactIsPlacedRow : OpenClaim := { program := "ytcbgiccgiegdbaa", sum := "c383bff96c016445289874fb8b430c118582e80e3659afa6471ac3c11f7682a5", func := "loop.example/g00339/laws.FnExactIsPlaced", spec := "fnExactIsPlaced", unfollowed := true, recurses := true, apart := false }
def FnExactIsPlacedSaid : Prop := fnExactIsPlacedRow.holds Try.pinned (OpenSpec.ofChange fnExactIsPlacedSpec)

/-- ITS FALSE NEIGHBOUR: 'it returns false'. Refute it at one input. -/
def fnExactIsPlacedWrong : ChangeSpec := { name := "fnExactIsPlaced", fn := fun _ => fun
  | [d1, d2] => { results := [.lit (.bool false)], args := [d1, d2] }
  | _ => none }
def FnExactIsPlacedWrongFalsely : Prop := fnExactIsPlacedRow.holds Try.pinned (OpenSpec.ofChange fnExactIsPlacedWrong)

/-- 'laws.FnExactGoodHeap': WHATEVER THE INPUT: true; the input reads as it did. -/
def fnExactGoodHeapSpec : ChangeSpec := { name := "fnExactGoodHeap", fn := fun _ => fun
  | [d] => { results := [.lit (.bool true)], args := [d] }
  | _ => none }
def fnExactGoodHeapRow : OpenClaim := { program := "ytcbgiccgiegdbaa", sum := "c383bff96c016445289874fb8b430c118582e80e3659afa6471ac3c11f7682a5", func := "loop.example/g00339/laws.FnExactGoodHeap", spec := "fnExactGoodHeap", unfollowed := true, recurses := true, apart := false }
def FnExactGoodHeapSaid : Prop := fnExactGoodHeapRow.holds Try.pinned (OpenSpec.ofChange fnExactGoodHeapSpec)

/-- ITS FALSE NEIGHBOUR: 'it returns false'. Refute it at one input. -/
def fnExactGoodHeapWrong : ChangeSpec := { name := "fnExactGoodHeap", fn := fun _ => fun
  | [d] => { results := [.lit (.bool false)], args := [d] }
  | _ => none }
def FnExactGoodHeapWrongFalsely : Prop := fnExactGoodHeapRow.holds Try.pinned (OpenSpec.ofChange fnExactGoodHeapWrong)

/-- 'laws.FnExactFreeAt': WHATEVER THE INPUT: true; the input reads as it did. -/
def fnExactFreeAtSpec : ChangeSpec := { name := "fnExactFreeAt", fn := fun _ => fun
  | [d1, d2, d3] => { results := [.lit (.bool true)], args := [d1, d2, d3] }
  | _ => none }
def fnExactFreeAtRow : OpenClaim := { program := "ytcbgiccgiegdbaa", sum := "c383bff96c016445289874fb8b430c118582e80e3659afa6471ac3c11f7682a5", func := "loop.example/g00339/laws.FnExactFreeAt", spec := "fnExactFreeAt", unfollowed := true, recurses := true, apart := false }
def FnExactFreeAtSaid : Prop := fnExactFreeAtRow.holds Try.pinned (OpenSpec.ofChange fnExactFreeAtSpec)

/-- ITS FALSE NEIGHBOUR: 'it returns false'. Refute it at one input. -/
def fnExactFreeAtWrong : ChangeSpec := { name := "fnExactFreeAt", fn := fun _ => fun
  | [d1, d2, d3] => { results := [.lit (.bool false)], args := [d1, d2, d3] }
  | _ => none }
def FnExactFreeAtWrongFalsely : Prop := fnExactFreeAtRow.holds Try.pinned (OpenSpec.ofChange fnExactFreeAtWrong)

/-- 'laws.FnExactGoodCode': WHATEVER THE INPUT: true; the input reads as it did. -/
def fnExactGoodCodeSpec : ChangeSpec := { name := "fnExactGoodCode", fn := fun _ => fun
  | [d] => { results := [.lit (.bool true)], args := [d] }
  | _ => none }
def fnExactGoodCodeRow : OpenClaim := { program := "ytcbgiccgiegdbaa", sum := "c383bff96c016445289874fb8b430c118582e80e3659afa6471ac3c11f7682a5", func := "loop.example/g00339/laws.FnExactGoodCode", spec := "fnExactGoodCode", unfollowed := true, recurses := true, apart := false }
def FnExactGoodCodeSaid : Prop := fnExactGoodCodeRow.holds Try.pinned (OpenSpec.ofChange fnExactGoodCodeSpec)

/-- ITS FALSE NEIGHBOUR: 'it returns false'. Refute it at one input. -/
def fnExactGoodCodeWrong : ChangeSpec := { name := "fnExactGoodCode", fn := fun _ => fun
  | [d] => { results := [.lit (.bool false)], args := [d] }
  | _ => none }
def FnExactGoodCodeWrongFalsely : Prop := fnExactGoodCodeRow.holds Try.pinned (OpenSpec.ofChange fnExactGoodCodeWrong)

/-- 'laws.FnExactFollowPath': WHATEVER THE INPUT: true; the input reads as it did. -/
def fnExactFollowPathSpec : ChangeSpec := { name := "fnExactFollowPath", fn := fun _ => fun
  | [d1, d2, d3] => { results := [.lit (.bool true)], args := [d1, d2, d3] }
  | _ => none }
def fnExactFollowPathRow : OpenClaim := { program := "ytcbgiccgiegdbaa", sum := "c383bff96c016445289874fb8b430c118582e80e3659afa6471ac3c11f7682a5", func := "loop.example/g00339/laws.FnExactFollowPath", spec := "fnExactFollowPath", unfollowed := true, recurses := true, apart := false }
def FnExactFollowPathSaid : Prop := fnExactFollowPathRow.holds Try.pinned (OpenSpec.ofChange fnExactFollowPathSpec)

/-- ITS FALSE NEIGHBOUR: 'it returns false'. Refute it at one input. -/
def fnExactFollowPathWrong : ChangeSpec := { name := "fnExactFollowPath", fn := fun _ => fun
  | [d1, d2, d3] => { results := [.lit (.bool false)], args := [d1, d2, d3] }
  | _ => none }
def FnExactFollowPathWrongFalsely : Prop := fnExactFollowPathRow.holds Try.pinned (OpenSpec.ofChange fnExactFollowPathWrong)

/- THE SECOND FORM. 'bulk': how many values and letters a reading holds, each counted each time it is reached (what is shared counts as often as it is met; a slice's spare places count too). A statement '..UptoSaid' is the law's where the arguments, and the package variables that the reading takes, are together of bulk at most 1048576: NARROWER than '..Said'. Prove '..Said' where nothing that the law and all that it calls make is longer than what came in: it says more and counts as full. Else prove '..UptoSaid'. A law counts once. -/
mutual
def uptoBulk {H : Type} : DataW H → Nat
  | .lit (.string bytes) => bytes.length + 1
  | .lit _ => 1
  | .nil => 1
  | .ptr d => uptoBulk d + 1
  | .slice elems spare => uptoBulkAll elems + uptoBulkAll spare + 1
  | .agg parts => uptoBulkAll parts + 1
  | .iface _ d => uptoBulk d + 1
  | .map entries => uptoBulkEntries entries + 1
  | .held _ => 1
def uptoBulkAll {H : Type} : List (DataW H) → Nat
  | [] => 0
  | d :: r => uptoBulk d + uptoBulkAll r
def uptoBulkEntries {H : Type} : List (Lit × DataW H) → Nat
  | [] => 0
  | x :: r => uptoBulkEntry x + uptoBulkEntries r
def uptoBulkEntry {H : Type} : Lit × DataW H → Nat
  | (.string bytes, d) => bytes.length + uptoBulk d + 1
  | (_, d) => uptoBulk d + 1
 end
def uptoSmall : (H : Type) → List (DataW H) → Bool := fun _ ds => decide (uptoBulkAll ds ≤ 1048576)
def OpenSpec.upto (s : _root_.Go.ChangeSpec) : _root_.Go.OpenSpec := { _root_.Go.OpenSpec.ofChange s with cond := some uptoSmall }

/-- 'laws.FnExactNameNo', WHERE WHAT IT READS IS OF BULK AT MOST 1048576: true; the input reads as it did. -/
def fnExactNameNoUptoRow : OpenClaim := { program := "ytcbgiccgiegdbaa", sum := "c383bff96c016445289874fb8b430c118582e80e3659afa6471ac3c11f7682a5", func := "loop.example/g00339/laws.FnExactNameNo", spec := "fnExactNameNo", apart := false, narrowed := true }
def FnExactNameNoUptoSaid : Prop := fnExactNameNoUptoRow.holds Try.pinned (OpenSpec.upto fnExactNameNoSpec)

/-- 'laws.FnExactIsPlaced', WHERE WHAT IT READS IS OF BULK AT MOST 1048576: true; the input reads as it did. -/
def fnExactIsPlacedUptoRow : OpenClaim := { program := "ytcbgiccgiegdbaa", sum := "c383bff96c016445289874fb8b430c118582e80e3659afa6471ac3c11f7682a5", func := "loop.example/g00339/laws.FnExactIsPlaced", spec := "fnExactIsPlaced", unfollowed := true, recurses := true, apart := false, narrowed := true }
def FnExactIsPlacedUptoSaid : Prop := fnExactIsPlacedUptoRow.holds Try.pinned (OpenSpec.upto fnExactIsPlacedSpec)

/-- 'laws.FnExactGoodHeap', WHERE WHAT IT READS IS OF BULK AT MOST 1048576: true; the input reads as it did. -/
def fnExactGoodHeapUptoRow : OpenClaim := { program := "ytcbgiccgiegdbaa", sum := "c383bff96c016445289874fb8b430c118582e80e3659afa6471ac3c11f7682a5", func := "loop.example/g00339/laws.FnExactGoodHeap", spec := "fnExactGoodHeap", unfollowed := true, recurses := true, apart := false, narrowed := true }
def FnExactGoodHeapUptoSaid : Prop := fnExactGoodHeapUptoRow.holds Try.pinned (OpenSpec.upto fnExactGoodHeapSpec)

/-- 'laws.FnExactFreeAt', WHERE WHAT IT READS IS OF BULK AT MOST 1048576: true; the input reads as it did. -/
def fnExactFreeAtUptoRow : OpenClaim := { program := "ytcbgiccgiegdbaa", sum := "c383bff96c016445289874fb8b430c118582e80e3659afa6471ac3c11f7682a5", func := "loop.example/g00339/laws.FnExactFreeAt", spec := "fnExactFreeAt", unfollowed := true, recurses := true, apart := false, narrowed := true }
def FnExactFreeAtUptoSaid : Prop := fnExactFreeAtUptoRow.holds Try.pinned (OpenSpec.upto fnExactFreeAtSpec)

/-- 'laws.FnExactGoodCode', WHERE WHAT IT READS IS OF BULK AT MOST 1048576: true; the input reads as it did. -/
def fnExactGoodCodeUptoRow : OpenClaim := { program := "ytcbgiccgiegdbaa", sum := "c383bff96c016445289874fb8b430c118582e80e3659afa6471ac3c11f7682a5", func := "loop.example/g00339/laws.FnExactGoodCode", spec := "fnExactGoodCode", unfollowed := true, recurses := true, apart := false, narrowed := true }
def FnExactGoodCodeUptoSaid : Prop := fnExactGoodCodeUptoRow.holds Try.pinned (OpenSpec.upto fnExactGoodCodeSpec)

/-- 'laws.FnExactFollowPath', WHERE WHAT IT READS IS OF BULK AT MOST 1048576: true; the input reads as it did. -/
def fnExactFollowPathUptoRow : OpenClaim := { program := "ytcbgiccgiegdbaa", sum := "c383bff96c016445289874fb8b430c118582e80e3659afa6471ac3c11f7682a5", func := "loop.example/g00339/laws.FnExactFollowPath", spec := "fnExactFollowPath", unfollowed := true, recurses := true, apart := false, narrowed := true }
def FnExactFollowPathUptoSaid : Prop := fnExactFollowPathUptoRow.holds Try.pinned (OpenSpec.upto fnExactFollowPathSpec)

end Rows
end Go.Proofs.Ytcbgiccgiegdbaa
