/- The row of the law: printed by a program of mine; Lean checks it. -/
import Derived.Test.YtdbpimeaipgpfaaRows
import Derived.Test.YtdbpimeaipgpfaaKFnExactPlayMachine6
import Derived.WalkKit
import Derived.ProofKit
import Derived.OpenShut
import Derived.ShutString
import Derived.ChangeOld
import Derived.Below
import Derived.SizedLaws
import Derived.Carry
namespace Go.Proofs.Ytdbpimeaipgpfaa.fnExactPlayMachine
open Go.Ev Go.ChangeShapes Go.WideShapes Go.ChangeAt Go.RowKit
set_option linter.unusedVariables false
set_option maxRecDepth 100000 in
theorem opens69 : Opens Try.prog 69 Cell.ce Cell.wf := by
  intro H enc W fuel cs x h
  obtain ⟨xs, n, rfl, rfl, hl, hn, hf⟩ := DataW.trod_struct Try.underlying69 h
  have hc : Try.prog.cellsOf 69 = 2 := by kernel_rfl
  rw [hc] at hl
  have hn' : xs.length = 2 := hn
  obtain ⟨v0, v1, rfl⟩ : ∃ v0 v1, cs = [v0, v1] := by
    match cs, hl with
    | [a0, a1], _ => exact ⟨a0, a1, rfl⟩
  have h0 := hf 0 _ rfl
  rw [List.getElem?_eq_getElem (show 0 < xs.length by omega)] at h0
  have e0 : Try.prog.cellsOf 3 = 1 := by kernel_rfl
  obtain ⟨a0, o0, l0, r0⟩ := (opens_int Try.underlying3) H enc W _ _ _ h0
  have q0 : (([v0, v1] : List Value).drop 0).take (Try.prog.cellsOf 3) = [v0] := by rw [e0]; rfl
  have h1 := hf 1 _ rfl
  rw [List.getElem?_eq_getElem (show 1 < xs.length by omega)] at h1
  have e1 : Try.prog.cellsOf 3 = 1 := by kernel_rfl
  obtain ⟨a1, o1, l1, r1⟩ := (opens_int Try.underlying3) H enc W _ _ _ h1
  have q1 : (([v0, v1] : List Value).drop 1).take (Try.prog.cellsOf 3) = [v1] := by rw [e1]; rfl
  refine ⟨⟨a0, a1⟩, ⟨o0, o1⟩, rfl, fun i u c hu hv => ?_⟩
  match i, hu, hv with
  | 0, hu, hv => exact r0 0 u c hu (show ((([v0, v1] : List Value).drop 0).take (Try.prog.cellsOf 3))[0]? = some c from by rw [q0]; exact hv)
  | 1, hu, hv => exact r1 0 u c hu (show ((([v0, v1] : List Value).drop 1).take (Try.prog.cellsOf 3))[0]? = some c from by rw [q1]; exact hv)
  | k + 2, hu, hv => simp at hv
theorem own : ownKnob Try.prog.godebug = none := by kernel_rfl
theorem laidOut : laidOutB Try.prog = true := by kernel_rfl
set_option maxRecDepth 100000 in
theorem lifted (os : Os) (started : os.Started) (H : Type) (enc : TypeId × Value → H) :
    ReturnsInHanded {} Try.checked os 7 .any (Rows.fnExactPlayMachineSpec.pre6 enc Try.prog Try.f7 Rows.fnExactPlayMachineRow.domain false) (Rows.fnExactPlayMachineSpec.post enc Try.prog Try.f7 false true false false) := by
  refine returnsInHanded_of_change_sized (C := Try.checked) own started (by kernel_rfl) Try.func7
    (ChangeSpec.witness6 (enc := enc) (C := Try.checked) false ⟨#[], #[.slice none 0 0, .int .i64 0], []⟩ 8 (by kernel_rfl) (by kernel_rfl) (by kernel_rfl) (by kernel_rfl)) ?_
  intro W base args ds gs before hval0 hW hcnd hsz0 _
  have hval : ∀ (j : Nat) t v, Try.f7.params[j]? = some t → args[j]? = some v → Value.okWide Try.prog W .any base t v := hval0
  have hW' := hW
  obtain ⟨p, q, hA0, hV, rfl, hfz, hnd⟩ := hW
  have hA : DataW.TrodAll enc Try.prog W 0 (fun _ => true) true Try.f7.params.toList args.toList ds p := hA0
  rw [Try.params7] at hA hval
  obtain ⟨v0, vs0, d0, ds0, p0, q0, hargs, rfl, rfl, h0, r0⟩ := trodAll_cons hA
  obtain ⟨v1, vs1, d1, ds1, p1, q1, rfl, rfl, rfl, h1, r1⟩ := trodAll_cons r0
  obtain ⟨rfl, rfl, rfl⟩ := trodAll_nil r1
  obtain rfl : args = #[v0, v1] := by cases args; simp_all
  obtain ⟨rfl, rfl⟩ := trodVars_none hV
  have k0 := h0
  have lt0 : ∀ x ∈ p0, x.block < W.heap.size := by obtain ⟨m, hm⟩ := k0; exact DataW.trod_lt m _ _ _ hm
  obtain ⟨b0, len0, cap0, rfl⟩ := okWide_slice Try.underlying22 (hval 0 22 v0 rfl rfl)
  obtain ⟨fuel0, hf0⟩ := h0
  obtain ⟨y0, o0, _, e0⟩ := (opens_slice (e := 69) (sz := 2) Try.underlying22 (by kernel_rfl) (by decide) (fun _ => rfl) opens69) H enc W _ _ _ hf0
  obtain ⟨a1, rfl, rfl, rfl, w1⟩ := open_int Try.underlying3 (hval 1 3 v1 rfl rfl) h1
  clear hA0 hval0 hsz0
  have hE := law_ev y0 o0 a1 w1
  refine (law_calls (by kernel_rfl) prim_none hE ⟨rfl, fun i v hi => ?_⟩).mono fun e W' ⟨he, bel⟩ => ?_
  · match i, hi with
    | 0, hi => obtain rfl := Option.some.inj hi; exact rep_one e0
    | 1, hi => obtain rfl := Option.some.inj hi; exact RepV.t (.int .i64 a1)
    | k + 2, hi => simp at hi
  · subst he
    exact ⟨_, rfl, _, _, _, [], _, [], hW', trodAll_mk1 (shut_bool Try.underlying4 _), (trodAll_cons_mk (Below.trod laidOut (by kernel_rfl) (of_decide_eq_true (by kernel_rfl)) k0 bel lt0) (trodAll_cons_mk (shut_int Try.underlying3 w1) trodAll_mk0)), rfl, bel.frame _, fun h => by cases h⟩
theorem over : Rows.fnExactPlayMachineRow.holds Try.pinned (OpenSpec.ofChange Rows.fnExactPlayMachineSpec) :=
  OpenClaim.holds_of_wide 7 Try.f7 rfl rfl rfl rfl rfl rfl rfl ⟨rfl, rfl, rfl, rfl, rfl⟩ rfl rfl rfl rfl rfl (by kernel_rfl) Try.func7 (by kernel_rfl)
    (of_decide_eq_true (by kernel_rfl)) (by unfold Func.isWrapper; first | (rw [if_pos (by decide +kernel)]; kernel_rfl) | (rw [if_neg (by decide +kernel)]; exact ⟨rfl, rfl⟩))
    (fun os started H enc _ => lifted os started H enc)
theorem proved : Rows.FnExactPlayMachineSaid := over
#print axioms proved
end Go.Proofs.Ytdbpimeaipgpfaa.fnExactPlayMachine
namespace Go.Proofs.Ytdbpimeaipgpfaa
/-- The row, under a short name, for the claim. -/
theorem fnExactPlayMachine_holds : Rows.FnExactPlayMachineSaid := fnExactPlayMachine.proved
end Go.Proofs.Ytdbpimeaipgpfaa
