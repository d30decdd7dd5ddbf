-- WRITTEN BY law.py, a program of this session: the row of the law. Not trusted: Lean checks it.
import Derived.Test.YtipolnpffmfmmabRows
import Derived.Test.YtipolnpffmfmmabDFnExactDepthOfCode
import Derived.Test.YtipolnpffmfmmabPureFnExactDepthOfCode
import Derived.WalkKit
import Derived.ProofKit
import Derived.OpenShut
import Derived.ShutString
import Derived.ChangeOld
import Derived.Below
import Derived.SizedLaws
import Derived.Carry
namespace Go.Proofs.Ytipolnpffmfmmab.fnExactDepthOfCode
open Go.ChangeShapes Go.WideShapes Go.ChangeAt Go.RowKit Go.Proofs.YtipolnpffmfmmabW.PrintWords Go.Proofs.Ytipolnpffmfmmab.PFnExactDepthOfCode Go.Proofs.YtipolnpffmfmmabO
open Go.ChangeMaps (open_string shut_string)
set_option linter.unusedVariables false
theorem own : ownKnob Try.prog.godebug = none := by kernel_rfl
theorem laidOut : laidOutB Try.prog = true := by kernel_rfl
set_option maxRecDepth 100000 in
theorem lifted (os : Os) (started : os.Started) (H : Type) (enc : TypeId × Value → H) :
    ReturnsInHanded {} Try.checked os 5 .any (Rows.fnExactDepthOfCodeSpec.pre6 enc Try.prog Try.f5 Rows.fnExactDepthOfCodeRow.domain false) (Rows.fnExactDepthOfCodeSpec.post enc Try.prog Try.f5 false true false false) := by
  refine returnsInHanded_of_change_sized (C := Try.checked) own started (by kernel_rfl) Try.func5
    (ChangeSpec.witness6 (enc := enc) (C := Try.checked) false ⟨#[], #[.slice none 0 0], []⟩ 8 (by kernel_rfl) (by kernel_rfl) (by kernel_rfl) (by kernel_rfl)) ?_
  intro W base args ds gs before hval0 hW hcnd hsz0 _
  have hval : ∀ (j : Nat) t v, Try.f5.params[j]? = some t → args[j]? = some v → Value.okWide Try.prog W .any base t v := hval0
  have hW' := hW
  obtain ⟨p, q, hA0, hV, rfl, hfz, hnd⟩ := hW
  have hA : DataW.TrodAll enc Try.prog W 0 (fun _ => true) true Try.f5.params.toList args.toList ds p := hA0
  rw [Try.params5] at hA hval
  obtain ⟨v0, vs0, d0, ds0, p0, q0, hargs, rfl, rfl, h0, r0⟩ := trodAll_cons hA
  obtain ⟨rfl, rfl, rfl⟩ := trodAll_nil r0
  obtain rfl : args = #[v0] := by cases args; simp_all
  obtain ⟨rfl, rfl⟩ := trodVars_none hV
  obtain ⟨b0, len0, cap0, rfl⟩ := okWide_slice Try.underlying48 (hval 0 48 v0 rfl rfl)
  have k0 := h0
  have lt0 : ∀ x ∈ p0, x.block < W.heap.size := by obtain ⟨m, hm⟩ := k0; exact DataW.trod_lt m _ _ _ hm
  obtain ⟨l0, ⟨A0, c0, e0, hc0, hr0⟩, w0⟩ := (fun (h : DataW.Trod enc Try.prog W 0 (fun _ => true) true 48 (.slice b0 len0 cap0) d0 p0) => by obtain ⟨fuel, hf⟩ := h; exact (opens_slice (e' := 89) Try.underlying48 (by kernel_rfl) opens89) H enc W _ _ _ hf : DataW.Trod enc Try.prog W 0 (fun _ => true) true 48 (.slice b0 len0 cap0) d0 p0 → ∃ y, ((Kd.slice 89 k89)).K W y (Value.cells (.slice b0 len0 cap0)).toList ∧ y.length ≤ 9223372036854775807 ∧ ∀ z ∈ y, Ok89 z) h0
  simp only [Value.cells, List.cons.injEq, and_true] at e0
  obtain ⟨rfl, rfl, rfl⟩ := Value.slice.inj e0
  clear hA0 hval0 hsz0
  obtain ⟨k, h⟩ := Pure.FnExactDepthOfCode l0 w0
  refine (laws_FnExactDepthOfCode.calls k _ _ l0 true W hr0 hc0 h).mono fun e W' ⟨he, bel0⟩ => ?_
  subst he
  have bel : Below W.heap.size W W' := bel0
  exact ⟨_, rfl, _, _, _, [], _, [], hW', trodAll_mk1 (shut_bool Try.underlying4 _), (trodAll_cons_mk (Below.trod laidOut (by kernel_rfl) (of_decide_eq_true (by kernel_rfl)) k0 bel lt0) trodAll_mk0), rfl, bel.frame _, fun h => by cases h⟩
theorem over : Rows.fnExactDepthOfCodeRow.holds Try.pinned (OpenSpec.ofChange Rows.fnExactDepthOfCodeSpec) :=
  OpenClaim.holds_of_wide 5 Try.f5 rfl rfl rfl rfl rfl rfl rfl ⟨rfl, rfl, rfl, rfl, rfl⟩ rfl rfl rfl rfl rfl (by kernel_rfl) Try.func5 (by kernel_rfl)
    (of_decide_eq_true (by kernel_rfl)) (by unfold Func.isWrapper; first | (rw [if_pos (by decide +kernel)]; kernel_rfl) | (rw [if_neg (by decide +kernel)]; exact ⟨rfl, rfl⟩))
    (fun os started H enc _ => lifted os started H enc)
theorem proved : Rows.FnExactDepthOfCodeSaid := over
#print axioms proved
end Go.Proofs.Ytipolnpffmfmmab.fnExactDepthOfCode
namespace Go.Proofs.Ytipolnpffmfmmab
/-- The row, under a short name, for the claim. -/
theorem fnExactDepthOfCode_holds : Rows.FnExactDepthOfCodeSaid := fnExactDepthOfCode.proved
end Go.Proofs.Ytipolnpffmfmmab
