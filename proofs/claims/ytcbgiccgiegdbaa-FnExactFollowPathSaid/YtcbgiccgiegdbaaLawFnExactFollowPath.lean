-- WRITTEN BY law.py, a program of this session: the row of the law. Not trusted: Lean checks it.
import Derived.Test.YtcbgiccgiegdbaaRows
import Derived.Test.YtcbgiccgiegdbaaDFnExactFollowPath
import Derived.Test.YtcbgiccgiegdbaaPureFnExactFollowPath
import Derived.WalkKit
import Derived.ProofKit
import Derived.OpenShut
import Derived.ShutString
import Derived.ChangeOld
import Derived.Below
import Derived.SizedLaws
import Derived.Carry
namespace Go.Proofs.Ytcbgiccgiegdbaa.fnExactFollowPath
open Go.ChangeShapes Go.WideShapes Go.ChangeAt Go.RowKit Go.Proofs.YtcbgiccgiegdbaaW.PrintWords Go.Proofs.Ytcbgiccgiegdbaa.PFnExactFollowPath Go.Proofs.YtcbgiccgiegdbaaO
open Go.ChangeMaps (open_string shut_string)
set_option linter.unusedVariables false
theorem own : ownKnob Try.prog.godebug = none := by kernel_rfl
theorem laidOut : laidOutB Try.prog = true := by kernel_rfl
set_option maxRecDepth 100000 in
theorem lifted (os : Os) (started : os.Started) (H : Type) (enc : TypeId × Value → H) :
    ReturnsInHanded {} Try.checked os 8 .any (Rows.fnExactFollowPathSpec.pre6 enc Try.prog Try.f8 Rows.fnExactFollowPathRow.domain false) (Rows.fnExactFollowPathSpec.post enc Try.prog Try.f8 false true false false) := by
  refine returnsInHanded_of_change_sized (C := Try.checked) own started (by kernel_rfl) Try.func8
    (ChangeSpec.witness6 (enc := enc) (C := Try.checked) false ⟨#[], #[.agg #[.slice none 0 0, .slice none 0 0], .int .i64 0, .slice none 0 0], []⟩ 8 (by kernel_rfl) (by kernel_rfl) (by kernel_rfl) (by kernel_rfl)) ?_
  intro W base args ds gs before hval0 hW hcnd hsz0 _
  have hval : ∀ (j : Nat) t v, Try.f8.params[j]? = some t → args[j]? = some v → Value.okWide Try.prog W .any base t v := hval0
  have hW' := hW
  obtain ⟨p, q, hA0, hV, rfl, hfz, hnd⟩ := hW
  have hA : DataW.TrodAll enc Try.prog W 0 (fun _ => true) true Try.f8.params.toList args.toList ds p := hA0
  rw [Try.params8] at hA hval
  obtain ⟨v0, vs0, d0, ds0, p0, q0, hargs, rfl, rfl, h0, r0⟩ := trodAll_cons hA
  obtain ⟨v1, vs1, d1, ds1, p1, q1, rfl, rfl, rfl, h1, r1⟩ := trodAll_cons r0
  obtain ⟨v2, vs2, d2, ds2, p2, q2, rfl, rfl, rfl, h2, r2⟩ := trodAll_cons r1
  obtain ⟨rfl, rfl, rfl⟩ := trodAll_nil r2
  obtain rfl : args = #[v0, v1, v2] := by cases args; simp_all
  obtain ⟨rfl, rfl⟩ := trodVars_none hV
  obtain ⟨cs0, rfl, _⟩ := okWide_struct Try.underlying38 (hval 0 38 v0 rfl rfl)
  have k0 := h0
  have lt0 : ∀ x ∈ p0, x.block < W.heap.size := by obtain ⟨m, hm⟩ := k0; exact DataW.trod_lt m _ _ _ hm
  obtain ⟨y0, K0, O0⟩ : ∃ y, k38.K W y cs0.toList ∧ Ok38 y := by obtain ⟨fuel, hf⟩ := h0; exact opens38 H enc W _ _ _ hf
  obtain ⟨A0_0, c0_0, A0_1, c0_1, E0, hl0_0, hr0_0, hl0_1, hr0_1⟩ := k38_open K0
  obtain rfl : cs0 = #[.slice A0_0 y0.f0.length c0_0, .slice A0_1 y0.f1.length c0_1] := by apply Array.ext'; exact E0
  obtain ⟨a1, rfl, rfl, rfl, w1⟩ := open_int Try.underlying3 (hval 1 3 v1 rfl rfl) h1
  obtain ⟨b2, len2, cap2, rfl⟩ := okWide_slice Try.underlying26 (hval 2 26 v2 rfl rfl)
  have k2 := h2
  have lt2 : ∀ x ∈ p2, x.block < W.heap.size := by obtain ⟨m, hm⟩ := k2; exact DataW.trod_lt m _ _ _ hm
  obtain ⟨l2, ⟨A2, c2, e2, hc2, hr2⟩, w2⟩ := (fun (h : DataW.Trod enc Try.prog W 0 (fun _ => true) true 26 (.slice b2 len2 cap2) d2 p2) => by obtain ⟨fuel, hf⟩ := h; exact (opens_slice (e' := 3) Try.underlying26 (by kernel_rfl) (opens_int Try.underlying3)) H enc W _ _ _ hf : DataW.Trod enc Try.prog W 0 (fun _ => true) true 26 (.slice b2 len2 cap2) d2 p2 → ∃ y, ((Kd.slice 3 (Kd.int .i64))).K W y (Value.cells (.slice b2 len2 cap2)).toList ∧ y.length ≤ 9223372036854775807 ∧ ∀ z ∈ y, ((Lit.int .i64 z).wf = true)) h2
  simp only [Value.cells, List.cons.injEq, and_true] at e2
  obtain ⟨rfl, rfl, rfl⟩ := Value.slice.inj e2
  clear hA0 hval0 hsz0
  obtain ⟨k, h⟩ := Pure.FnExactFollowPath y0.f0 y0.f1 a1 l2 O0.1 O0.2 w1 w2
  refine (laws_FnExactFollowPath.calls k _ _ y0.f0 _ _ y0.f1 a1 _ _ l2 true W hr0_0 hl0_0 hr0_1 hl0_1 hr2 hc2 h).mono fun e W' ⟨he, bel0⟩ => ?_
  subst he
  have bel : Below W.heap.size W W' := bel0
  exact ⟨_, rfl, _, _, _, [], _, [], hW', trodAll_mk1 (shut_bool Try.underlying4 _), (trodAll_cons_mk (Below.trod laidOut (by kernel_rfl) (of_decide_eq_true (by kernel_rfl)) k0 bel lt0) (trodAll_cons_mk (shut_int Try.underlying3 w1) (trodAll_cons_mk (Below.trod laidOut (by kernel_rfl) (of_decide_eq_true (by kernel_rfl)) k2 bel lt2) trodAll_mk0))), rfl, bel.frame _, fun h => by cases h⟩
theorem over : Rows.fnExactFollowPathRow.holds Try.pinned (OpenSpec.ofChange Rows.fnExactFollowPathSpec) :=
  OpenClaim.holds_of_wide 8 Try.f8 rfl rfl rfl rfl rfl rfl rfl ⟨rfl, rfl, rfl, rfl, rfl⟩ rfl rfl rfl rfl rfl (by kernel_rfl) Try.func8 (by kernel_rfl)
    (of_decide_eq_true (by kernel_rfl)) (by unfold Func.isWrapper; first | (rw [if_pos (by decide +kernel)]; kernel_rfl) | (rw [if_neg (by decide +kernel)]; exact ⟨rfl, rfl⟩))
    (fun os started H enc _ => lifted os started H enc)
theorem proved : Rows.FnExactFollowPathSaid := over
#print axioms proved
end Go.Proofs.Ytcbgiccgiegdbaa.fnExactFollowPath
namespace Go.Proofs.Ytcbgiccgiegdbaa
/-- The row, under a short name, for the claim. -/
theorem fnExactFollowPath_holds : Rows.FnExactFollowPathSaid := fnExactFollowPath.proved
end Go.Proofs.Ytcbgiccgiegdbaa
