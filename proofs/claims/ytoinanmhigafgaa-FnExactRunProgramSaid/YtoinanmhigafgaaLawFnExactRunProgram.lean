/- The row of the law: printed by a program of mine; Lean checks it. -/
import Derived.Test.YtoinanmhigafgaaRows
import Derived.Test.YtoinanmhigafgaaKFnExactRunProgram5
import Derived.WalkKit
import Derived.ProofKit
import Derived.OpenShut
import Derived.ShutString
import Derived.ChangeOld
import Derived.Below
import Derived.SizedLaws
import Derived.Carry
namespace Go.Proofs.Ytoinanmhigafgaa.fnExactRunProgram
open Go.Ev Go.ChangeShapes Go.WideShapes Go.ChangeAt Go.RowKit
set_option linter.unusedVariables false
set_option maxRecDepth 100000 in
theorem opens73 : Opens Try.prog 73 Ex.ce Ex.wf := by
  intro H enc W fuel cs x h
  obtain ⟨xs, n, rfl, rfl, hl, hn, hf⟩ := DataW.trod_struct Try.underlying73 h
  have hc : Try.prog.cellsOf 73 = 3 := by kernel_rfl
  rw [hc] at hl
  have hn' : xs.length = 3 := hn
  obtain ⟨v0, v1, v2, rfl⟩ : ∃ v0 v1 v2, cs = [v0, v1, v2] := by
    match cs, hl with
    | [a0, a1, a2], _ => exact ⟨a0, a1, a2, rfl⟩
  have h0 := hf 0 _ rfl
  rw [List.getElem?_eq_getElem (show 0 < xs.length by omega)] at h0
  have e0 : Try.prog.cellsOf 3 = 1 := by kernel_rfl
  obtain ⟨a0, o0, l0, r0⟩ := (opens_int Try.underlying3) H enc W _ _ _ h0
  have q0 : (([v0, v1, v2] : List Value).drop 0).take (Try.prog.cellsOf 3) = [v0] := by rw [e0]; rfl
  have h1 := hf 1 _ rfl
  rw [List.getElem?_eq_getElem (show 1 < xs.length by omega)] at h1
  have e1 : Try.prog.cellsOf 3 = 1 := by kernel_rfl
  obtain ⟨a1, o1, l1, r1⟩ := (opens_int Try.underlying3) H enc W _ _ _ h1
  have q1 : (([v0, v1, v2] : List Value).drop 1).take (Try.prog.cellsOf 3) = [v1] := by rw [e1]; rfl
  have h2 := hf 2 _ rfl
  rw [List.getElem?_eq_getElem (show 2 < xs.length by omega)] at h2
  have e2 : Try.prog.cellsOf 9 = 1 := by kernel_rfl
  obtain ⟨a2, o2, l2, r2⟩ := (opens_string Try.underlying9) H enc W _ _ _ h2
  have q2 : (([v0, v1, v2] : List Value).drop 2).take (Try.prog.cellsOf 9) = [v2] := by rw [e2]; rfl
  refine ⟨⟨a0, a1, a2⟩, ⟨o0, o1, o2⟩, rfl, fun i u c hu hv => ?_⟩
  match i, hu, hv with
  | 0, hu, hv => exact r0 0 u c hu (show ((([v0, v1, v2] : List Value).drop 0).take (Try.prog.cellsOf 3))[0]? = some c from by rw [q0]; exact hv)
  | 1, hu, hv => exact r1 0 u c hu (show ((([v0, v1, v2] : List Value).drop 1).take (Try.prog.cellsOf 3))[0]? = some c from by rw [q1]; exact hv)
  | 2, hu, hv => exact r2 0 u c hu (show ((([v0, v1, v2] : List Value).drop 2).take (Try.prog.cellsOf 9))[0]? = some c from by rw [q2]; exact hv)
  | k + 3, hu, hv => simp at hv
set_option maxRecDepth 100000 in
theorem opens56 : Opens Try.prog 56 Line.ce Line.wf := by
  intro H enc W fuel cs x h
  obtain ⟨xs, n, rfl, rfl, hl, hn, hf⟩ := DataW.trod_struct Try.underlying56 h
  have hc : Try.prog.cellsOf 56 = 3 := by kernel_rfl
  rw [hc] at hl
  have hn' : xs.length = 3 := hn
  obtain ⟨v0, v1, v2, rfl⟩ : ∃ v0 v1 v2, cs = [v0, v1, v2] := by
    match cs, hl with
    | [a0, a1, a2], _ => exact ⟨a0, a1, a2, rfl⟩
  have h0 := hf 0 _ rfl
  rw [List.getElem?_eq_getElem (show 0 < xs.length by omega)] at h0
  have e0 : Try.prog.cellsOf 3 = 1 := by kernel_rfl
  obtain ⟨a0, o0, l0, r0⟩ := (opens_int Try.underlying3) H enc W _ _ _ h0
  have q0 : (([v0, v1, v2] : List Value).drop 0).take (Try.prog.cellsOf 3) = [v0] := by rw [e0]; rfl
  have h1 := hf 1 _ rfl
  rw [List.getElem?_eq_getElem (show 1 < xs.length by omega)] at h1
  have e1 : Try.prog.cellsOf 3 = 1 := by kernel_rfl
  obtain ⟨a1, o1, l1, r1⟩ := (opens_int Try.underlying3) H enc W _ _ _ h1
  have q1 : (([v0, v1, v2] : List Value).drop 1).take (Try.prog.cellsOf 3) = [v1] := by rw [e1]; rfl
  have h2 := hf 2 _ rfl
  rw [List.getElem?_eq_getElem (show 2 < xs.length by omega)] at h2
  have e2 : Try.prog.cellsOf 29 = 1 := by kernel_rfl
  obtain ⟨a2, o2, l2, r2⟩ := (opens_slice (e := 73) (sz := 3) Try.underlying29 (by kernel_rfl) (by decide) (fun _ => rfl) opens73) H enc W _ _ _ h2
  have q2 : (([v0, v1, v2] : List Value).drop 2).take (Try.prog.cellsOf 29) = [v2] := by rw [e2]; rfl
  refine ⟨⟨a0, a1, a2⟩, ⟨o0, o1, o2⟩, rfl, fun i u c hu hv => ?_⟩
  match i, hu, hv with
  | 0, hu, hv => exact r0 0 u c hu (show ((([v0, v1, v2] : List Value).drop 0).take (Try.prog.cellsOf 3))[0]? = some c from by rw [q0]; exact hv)
  | 1, hu, hv => exact r1 0 u c hu (show ((([v0, v1, v2] : List Value).drop 1).take (Try.prog.cellsOf 3))[0]? = some c from by rw [q1]; exact hv)
  | 2, hu, hv => exact r2 0 u c hu (show ((([v0, v1, v2] : List Value).drop 2).take (Try.prog.cellsOf 29))[0]? = some c from by rw [q2]; exact hv)
  | k + 3, hu, hv => simp at hv
theorem own : ownKnob Try.prog.godebug = none := by kernel_rfl
theorem laidOut : laidOutB Try.prog = true := by kernel_rfl
set_option maxRecDepth 100000 in
theorem lifted (os : Os) (started : os.Started) (H : Type) (enc : TypeId × Value → H) :
    ReturnsInHanded {} Try.checked os 7 .any (Rows.fnExactRunProgramSpec.pre6 enc Try.prog Try.f7 Rows.fnExactRunProgramRow.domain false) (Rows.fnExactRunProgramSpec.post enc Try.prog Try.f7 false true false false) := by
  refine returnsInHanded_of_change_sized (C := Try.checked) own started (by kernel_rfl) Try.func7
    (ChangeSpec.witness6 (enc := enc) (C := Try.checked) false ⟨#[], #[.slice none 0 0, .slice none 0 0, .int .i64 0], []⟩ 8 (by kernel_rfl) (by kernel_rfl) (by kernel_rfl) (by kernel_rfl)) ?_
  intro W base args ds gs before hval0 hW hcnd hsz0 _
  have hval : ∀ (j : Nat) t v, Try.f7.params[j]? = some t → args[j]? = some v → Value.okWide Try.prog W .any base t v := hval0
  have hW' := hW
  obtain ⟨p, q, hA0, hV, rfl, hfz, hnd⟩ := hW
  have hA : DataW.TrodAll enc Try.prog W 0 (fun _ => true) true Try.f7.params.toList args.toList ds p := hA0
  rw [Try.params7] at hA hval
  obtain ⟨v0, vs0, d0, ds0, p0, q0, hargs, rfl, rfl, h0, r0⟩ := trodAll_cons hA
  obtain ⟨v1, vs1, d1, ds1, p1, q1, rfl, rfl, rfl, h1, r1⟩ := trodAll_cons r0
  obtain ⟨v2, vs2, d2, ds2, p2, q2, rfl, rfl, rfl, h2, r2⟩ := trodAll_cons r1
  obtain ⟨rfl, rfl, rfl⟩ := trodAll_nil r2
  obtain rfl : args = #[v0, v1, v2] := by cases args; simp_all
  obtain ⟨rfl, rfl⟩ := trodVars_none hV
  have k0 := h0
  have lt0 : ∀ x ∈ p0, x.block < W.heap.size := by obtain ⟨m, hm⟩ := k0; exact DataW.trod_lt m _ _ _ hm
  obtain ⟨b0, len0, cap0, rfl⟩ := okWide_slice Try.underlying22 (hval 0 22 v0 rfl rfl)
  obtain ⟨fuel0, hf0⟩ := h0
  obtain ⟨y0, o0, _, e0⟩ := (opens_slice (e := 56) (sz := 3) Try.underlying22 (by kernel_rfl) (by decide) (fun _ => rfl) opens56) H enc W _ _ _ hf0
  have k1 := h1
  have lt1 : ∀ x ∈ p1, x.block < W.heap.size := by obtain ⟨m, hm⟩ := k1; exact DataW.trod_lt m _ _ _ hm
  obtain ⟨b1, len1, cap1, rfl⟩ := okWide_slice Try.underlying45 (hval 1 45 v1 rfl rfl)
  obtain ⟨fuel1, hf1⟩ := h1
  obtain ⟨y1, o1, _, e1⟩ := (opens_slice (e := 3) (sz := 1) Try.underlying45 (by kernel_rfl) (by decide) (fun _ => rfl) (opens_int Try.underlying3)) H enc W _ _ _ hf1
  obtain ⟨a2, rfl, rfl, rfl, w2⟩ := open_int Try.underlying3 (hval 2 3 v2 rfl rfl) h2
  clear hA0 hval0 hsz0
  have hE := law_ev y0 o0 y1 o1 a2 w2
  refine (law_calls (by kernel_rfl) prim_none hE ⟨rfl, fun i v hi => ?_⟩).mono fun e W' ⟨he, bel⟩ => ?_
  · match i, hi with
    | 0, hi => obtain rfl := Option.some.inj hi; exact rep_one e0
    | 1, hi => obtain rfl := Option.some.inj hi; exact rep_one e1
    | 2, hi => obtain rfl := Option.some.inj hi; exact RepV.t (.int .i64 a2)
    | k + 3, hi => simp at hi
  · subst he
    exact ⟨_, rfl, _, _, _, [], _, [], hW', trodAll_mk1 (shut_bool Try.underlying4 _), (trodAll_cons_mk (Below.trod laidOut (by kernel_rfl) (of_decide_eq_true (by kernel_rfl)) k0 bel lt0) (trodAll_cons_mk (Below.trod laidOut (by kernel_rfl) (of_decide_eq_true (by kernel_rfl)) k1 bel lt1) (trodAll_cons_mk (shut_int Try.underlying3 w2) trodAll_mk0))), rfl, bel.frame _, fun h => by cases h⟩
theorem over : Rows.fnExactRunProgramRow.holds Try.pinned (OpenSpec.ofChange Rows.fnExactRunProgramSpec) :=
  OpenClaim.holds_of_wide 7 Try.f7 rfl rfl rfl rfl rfl rfl rfl ⟨rfl, rfl, rfl, rfl, rfl⟩ rfl rfl rfl rfl rfl (by kernel_rfl) Try.func7 (by kernel_rfl)
    (of_decide_eq_true (by kernel_rfl)) (by unfold Func.isWrapper; first | (rw [if_pos (by decide +kernel)]; kernel_rfl) | (rw [if_neg (by decide +kernel)]; exact ⟨rfl, rfl⟩))
    (fun os started H enc _ => lifted os started H enc)
theorem proved : Rows.FnExactRunProgramSaid := over
#print axioms proved
end Go.Proofs.Ytoinanmhigafgaa.fnExactRunProgram
namespace Go.Proofs.Ytoinanmhigafgaa
/-- The row, under a short name, for the claim. -/
theorem fnExactRunProgram_holds : Rows.FnExactRunProgramSaid := fnExactRunProgram.proved
end Go.Proofs.Ytoinanmhigafgaa
