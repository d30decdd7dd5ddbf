-- WRITTEN BY law.py, a program of this session: the row of the law. Not trusted: Lean checks it.
import Derived.Test.YtipolnpffmfmmabRows
import Derived.Test.YtipolnpffmfmmabKDFnCodeBytes
import Derived.Test.YtipolnpffmfmmabKPureFnCodeBytes
import Derived.WalkKit
import Derived.ProofKit
import Derived.OpenShut
import Derived.ShutString
import Derived.ChangeOld
import Derived.Below
import Derived.SizedLaws
import Derived.Carry
namespace Go.Proofs.Ytipolnpffmfmmab.fnCodeBytes
open Go.ChangeShapes Go.WideShapes Go.ChangeAt Go.RowKit Go.Proofs.YtipolnpffmfmmabW.PrintWords Go.Proofs.Ytipolnpffmfmmab.PFnCodeBytes Go.Proofs.YtipolnpffmfmmabO
open Go.ChangeMaps (open_string shut_string)
set_option linter.unusedVariables false
theorem own : ownKnob Try.prog.godebug = none := by kernel_rfl
theorem laidOut : laidOutB Try.prog = true := by kernel_rfl
set_option maxRecDepth 100000 in
theorem lifted (os : Os) (started : os.Started) (H : Type) (enc : TypeId × Value → H) :
    ReturnsInHanded {} Try.checked os 6 .any (Rows.fnCodeBytesSpec.pre6 enc Try.prog Try.f6 Rows.fnCodeBytesRow.domain false) (Rows.fnCodeBytesSpec.post enc Try.prog Try.f6 false true false false) := by
  refine returnsInHanded_of_change_sized (C := Try.checked) own started (by kernel_rfl) Try.func6
    (ChangeSpec.witness6 (enc := enc) (C := Try.checked) false ⟨#[], #[.slice none 0 0, .slice none 0 0], []⟩ 8 (by kernel_rfl) (by kernel_rfl) (by kernel_rfl) (by kernel_rfl)) ?_
  intro W base args ds gs before hval0 hW hcnd hsz0 _
  have hval : ∀ (j : Nat) t v, Try.f6.params[j]? = some t → args[j]? = some v → Value.okWide Try.prog W .any base t v := hval0
  have hW' := hW
  obtain ⟨p, q, hA0, hV, rfl, hfz, hnd⟩ := hW
  have hA : DataW.TrodAll enc Try.prog W 0 (fun _ => true) true Try.f6.params.toList args.toList ds p := hA0
  rw [Try.params6] at hA hval
  obtain ⟨v0, vs0, d0, ds0, p0, q0, hargs, rfl, rfl, h0, r0⟩ := trodAll_cons hA
  obtain ⟨v1, vs1, d1, ds1, p1, q1, rfl, rfl, rfl, h1, r1⟩ := trodAll_cons r0
  obtain ⟨rfl, rfl, rfl⟩ := trodAll_nil r1
  obtain rfl : args = #[v0, v1] := by cases args; simp_all
  obtain ⟨rfl, rfl⟩ := trodVars_none hV
  obtain ⟨b0, len0, cap0, rfl⟩ := okWide_slice Try.underlying22 (hval 0 22 v0 rfl rfl)
  have k0 := h0
  have lt0 : ∀ x ∈ p0, x.block < W.heap.size := by obtain ⟨m, hm⟩ := k0; exact DataW.trod_lt m _ _ _ hm
  obtain ⟨l0, ⟨A0, c0, e0, hc0, hr0⟩, w0⟩ := (fun (h : DataW.Trod enc Try.prog W 0 (fun _ => true) true 22 (.slice b0 len0 cap0) d0 p0) => by obtain ⟨fuel, hf⟩ := h; exact (opens_slice (e' := 5) Try.underlying22 (by kernel_rfl) (opens_int Try.underlying5)) H enc W _ _ _ hf : DataW.Trod enc Try.prog W 0 (fun _ => true) true 22 (.slice b0 len0 cap0) d0 p0 → ∃ y, ((Kd.slice 5 (Kd.int .u8))).K W y (Value.cells (.slice b0 len0 cap0)).toList ∧ y.length ≤ 9223372036854775807 ∧ ∀ z ∈ y, ((Lit.int .u8 z).wf = true)) h0
  simp only [Value.cells, List.cons.injEq, and_true] at e0
  obtain ⟨rfl, rfl, rfl⟩ := Value.slice.inj e0
  obtain ⟨b1, len1, cap1, rfl⟩ := okWide_slice Try.underlying22 (hval 1 22 v1 rfl rfl)
  have k1 := h1
  have lt1 : ∀ x ∈ p1, x.block < W.heap.size := by obtain ⟨m, hm⟩ := k1; exact DataW.trod_lt m _ _ _ hm
  obtain ⟨l1, ⟨A1, c1, e1, hc1, hr1⟩, w1⟩ := (fun (h : DataW.Trod enc Try.prog W 0 (fun _ => true) true 22 (.slice b1 len1 cap1) d1 p1) => by obtain ⟨fuel, hf⟩ := h; exact (opens_slice (e' := 5) Try.underlying22 (by kernel_rfl) (opens_int Try.underlying5)) H enc W _ _ _ hf : DataW.Trod enc Try.prog W 0 (fun _ => true) true 22 (.slice b1 len1 cap1) d1 p1 → ∃ y, ((Kd.slice 5 (Kd.int .u8))).K W y (Value.cells (.slice b1 len1 cap1)).toList ∧ y.length ≤ 9223372036854775807 ∧ ∀ z ∈ y, ((Lit.int .u8 z).wf = true)) h1
  simp only [Value.cells, List.cons.injEq, and_true] at e1
  obtain ⟨rfl, rfl, rfl⟩ := Value.slice.inj e1
  clear hA0 hval0 hsz0
  obtain ⟨k, h⟩ := Pure.FnCodeBytes l0 l1 w0 w1
  refine (laws_FnCodeBytes.calls k _ _ l0 _ _ l1 true W hr0 hc0 hr1 hc1 h).mono fun e W' ⟨he, bel0⟩ => ?_
  subst he
  have bel : Below W.heap.size W W' := bel0
  exact ⟨_, rfl, _, _, _, [], _, [], hW', trodAll_mk1 (shut_bool Try.underlying4 _), (trodAll_cons_mk (Below.trod laidOut (by kernel_rfl) (of_decide_eq_true (by kernel_rfl)) k0 bel lt0) (trodAll_cons_mk (Below.trod laidOut (by kernel_rfl) (of_decide_eq_true (by kernel_rfl)) k1 bel lt1) trodAll_mk0)), rfl, bel.frame _, fun h => by cases h⟩
theorem over : Rows.fnCodeBytesRow.holds Try.pinned (OpenSpec.ofChange Rows.fnCodeBytesSpec) :=
  OpenClaim.holds_of_wide 6 Try.f6 rfl rfl rfl rfl rfl rfl rfl ⟨rfl, rfl, rfl, rfl, rfl⟩ rfl rfl rfl rfl rfl (by kernel_rfl) Try.func6 (by kernel_rfl)
    (of_decide_eq_true (by kernel_rfl)) (by unfold Func.isWrapper; first | (rw [if_pos (by decide +kernel)]; kernel_rfl) | (rw [if_neg (by decide +kernel)]; exact ⟨rfl, rfl⟩))
    (fun os started H enc _ => lifted os started H enc)
theorem proved : Rows.FnCodeBytesSaid := over
#print axioms proved
end Go.Proofs.Ytipolnpffmfmmab.fnCodeBytes
namespace Go.Proofs.Ytipolnpffmfmmab
/-- The row, under a short name, for the claim. -/
theorem fnCodeBytes_holds : Rows.FnCodeBytesSaid := fnCodeBytes.proved
end Go.Proofs.Ytipolnpffmfmmab
