-- WRITTEN BY law.py, a program of this session: the row of the law. Not trusted: Lean checks it.
import Derived.Test.YtcbgiccgiegdbaaRows
import Derived.Test.YtcbgiccgiegdbaaDFnExactFreeAt
import Derived.Test.YtcbgiccgiegdbaaPureFnExactFreeAt
import Derived.WalkKit
import Derived.ProofKit
import Derived.OpenShut
import Derived.ShutString
import Derived.ChangeOld
import Derived.Below
import Derived.SizedLaws
import Derived.Carry
namespace Go.Proofs.Ytcbgiccgiegdbaa.fnExactFreeAt
open Go.ChangeShapes Go.WideShapes Go.ChangeAt Go.RowKit Go.Proofs.YtcbgiccgiegdbaaW.PrintWords Go.Proofs.Ytcbgiccgiegdbaa.PFnExactFreeAt Go.Proofs.YtcbgiccgiegdbaaO
open Go.ChangeMaps (open_string shut_string)
set_option linter.unusedVariables false
theorem own : ownKnob Try.prog.godebug = none := by kernel_rfl
theorem laidOut : laidOutB Try.prog = true := by kernel_rfl
set_option maxRecDepth 100000 in
theorem lifted (os : Os) (started : os.Started) (H : Type) (enc : TypeId × Value → H) :
    ReturnsInHanded {} Try.checked os 6 .any (Rows.fnExactFreeAtSpec.pre6 enc Try.prog Try.f6 Rows.fnExactFreeAtRow.domain false) (Rows.fnExactFreeAtSpec.post enc Try.prog Try.f6 false true false false) := by
  refine returnsInHanded_of_change_sized (C := Try.checked) own started (by kernel_rfl) Try.func6
    (ChangeSpec.witness6 (enc := enc) (C := Try.checked) false ⟨#[], #[.slice none 0 0, .slice none 0 0, .int .i64 0], []⟩ 8 (by kernel_rfl) (by kernel_rfl) (by kernel_rfl) (by kernel_rfl)) ?_
  intro W base args ds gs before hval0 hW hcnd hsz0 _
  have hval : ∀ (j : Nat) t v, Try.f6.params[j]? = some t → args[j]? = some v → Value.okWide Try.prog W .any base t v := hval0
  have hW' := hW
  obtain ⟨p, q, hA0, hV, rfl, hfz, hnd⟩ := hW
  have hA : DataW.TrodAll enc Try.prog W 0 (fun _ => true) true Try.f6.params.toList args.toList ds p := hA0
  rw [Try.params6] at hA hval
  obtain ⟨v0, vs0, d0, ds0, p0, q0, hargs, rfl, rfl, h0, r0⟩ := trodAll_cons hA
  obtain ⟨v1, vs1, d1, ds1, p1, q1, rfl, rfl, rfl, h1, r1⟩ := trodAll_cons r0
  obtain ⟨v2, vs2, d2, ds2, p2, q2, rfl, rfl, rfl, h2, r2⟩ := trodAll_cons r1
  obtain ⟨rfl, rfl, rfl⟩ := trodAll_nil r2
  obtain rfl : args = #[v0, v1, v2] := by cases args; simp_all
  obtain ⟨rfl, rfl⟩ := trodVars_none hV
  obtain ⟨b0, len0, cap0, rfl⟩ := okWide_slice Try.underlying25 (hval 0 25 v0 rfl rfl)
  have k0 := h0
  have lt0 : ∀ x ∈ p0, x.block < W.heap.size := by obtain ⟨m, hm⟩ := k0; exact DataW.trod_lt m _ _ _ hm
  obtain ⟨l0, ⟨A0, c0, e0, hc0, hr0⟩, w0⟩ := (fun (h : DataW.Trod enc Try.prog W 0 (fun _ => true) true 25 (.slice b0 len0 cap0) d0 p0) => by obtain ⟨fuel, hf⟩ := h; exact (opens_slice (e' := 64) Try.underlying25 (by kernel_rfl) opens64) H enc W _ _ _ hf : DataW.Trod enc Try.prog W 0 (fun _ => true) true 25 (.slice b0 len0 cap0) d0 p0 → ∃ y, ((Kd.slice 64 k64)).K W y (Value.cells (.slice b0 len0 cap0)).toList ∧ y.length ≤ 9223372036854775807 ∧ ∀ z ∈ y, Ok64 z) h0
  simp only [Value.cells, List.cons.injEq, and_true] at e0
  obtain ⟨rfl, rfl, rfl⟩ := Value.slice.inj e0
  obtain ⟨b1, len1, cap1, rfl⟩ := okWide_slice Try.underlying26 (hval 1 26 v1 rfl rfl)
  have k1 := h1
  have lt1 : ∀ x ∈ p1, x.block < W.heap.size := by obtain ⟨m, hm⟩ := k1; exact DataW.trod_lt m _ _ _ hm
  obtain ⟨l1, ⟨A1, c1, e1, hc1, hr1⟩, w1⟩ := (fun (h : DataW.Trod enc Try.prog W 0 (fun _ => true) true 26 (.slice b1 len1 cap1) d1 p1) => by obtain ⟨fuel, hf⟩ := h; exact (opens_slice (e' := 3) Try.underlying26 (by kernel_rfl) (opens_int Try.underlying3)) H enc W _ _ _ hf : DataW.Trod enc Try.prog W 0 (fun _ => true) true 26 (.slice b1 len1 cap1) d1 p1 → ∃ y, ((Kd.slice 3 (Kd.int .i64))).K W y (Value.cells (.slice b1 len1 cap1)).toList ∧ y.length ≤ 9223372036854775807 ∧ ∀ z ∈ y, ((Lit.int .i64 z).wf = true)) h1
  simp only [Value.cells, List.cons.injEq, and_true] at e1
  obtain ⟨rfl, rfl, rfl⟩ := Value.slice.inj e1
  obtain ⟨a2, rfl, rfl, rfl, w2⟩ := open_int Try.underlying3 (hval 2 3 v2 rfl rfl) h2
  clear hA0 hval0 hsz0
  obtain ⟨k, h⟩ := Pure.FnExactFreeAt l0 l1 a2 w0 w1 w2
  refine (laws_FnExactFreeAt.calls k _ _ l0 _ _ l1 a2 true W hr0 hc0 hr1 hc1 h).mono fun e W' ⟨he, bel0⟩ => ?_
  subst he
  have bel : Below W.heap.size W W' := bel0
  exact ⟨_, rfl, _, _, _, [], _, [], hW', trodAll_mk1 (shut_bool Try.underlying4 _), (trodAll_cons_mk (Below.trod laidOut (by kernel_rfl) (of_decide_eq_true (by kernel_rfl)) k0 bel lt0) (trodAll_cons_mk (Below.trod laidOut (by kernel_rfl) (of_decide_eq_true (by kernel_rfl)) k1 bel lt1) (trodAll_cons_mk (shut_int Try.underlying3 w2) trodAll_mk0))), rfl, bel.frame _, fun h => by cases h⟩
theorem over : Rows.fnExactFreeAtRow.holds Try.pinned (OpenSpec.ofChange Rows.fnExactFreeAtSpec) :=
  OpenClaim.holds_of_wide 6 Try.f6 rfl rfl rfl rfl rfl rfl rfl ⟨rfl, rfl, rfl, rfl, rfl⟩ rfl rfl rfl rfl rfl (by kernel_rfl) Try.func6 (by kernel_rfl)
    (of_decide_eq_true (by kernel_rfl)) (by unfold Func.isWrapper; first | (rw [if_pos (by decide +kernel)]; kernel_rfl) | (rw [if_neg (by decide +kernel)]; exact ⟨rfl, rfl⟩))
    (fun os started H enc _ => lifted os started H enc)
theorem proved : Rows.FnExactFreeAtSaid := over
#print axioms proved
end Go.Proofs.Ytcbgiccgiegdbaa.fnExactFreeAt
namespace Go.Proofs.Ytcbgiccgiegdbaa
/-- The row, under a short name, for the claim. -/
theorem fnExactFreeAt_holds : Rows.FnExactFreeAtSaid := fnExactFreeAt.proved
end Go.Proofs.Ytcbgiccgiegdbaa
