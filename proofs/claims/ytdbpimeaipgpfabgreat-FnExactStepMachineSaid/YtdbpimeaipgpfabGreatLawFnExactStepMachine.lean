/- The row of the law: printed by a program of mine; Lean checks it. -/
import Derived.Test.YtdbpimeaipgpfabGreatRows
import Derived.Test.YtdbpimeaipgpfabGreatKFnExactStepMachine6
import Derived.WalkKit
import Derived.ProofKit
import Derived.OpenShut
import Derived.ShutString
import Derived.ChangeOld
import Derived.Below
import Derived.SizedLaws
import Derived.Carry
namespace Go.Proofs.YtdbpimeaipgpfabGreat.fnExactStepMachine
open Go.Ev Go.ChangeShapes Go.WideShapes Go.ChangeAt Go.RowKit
set_option linter.unusedVariables false
set_option maxRecDepth 100000 in
theorem opens124 : Opens Tryz.prog 124 Cell.ce Cell.wf := by
  intro H enc W fuel cs x h
  obtain ⟨xs, n, rfl, rfl, hl, hn, hf⟩ := DataW.trod_struct Tryz.underlying124 h
  have hc : Tryz.prog.cellsOf 124 = 2 := by kernel_rfl
  rw [hc] at hl
  have hn' : xs.length = 2 := hn
  obtain ⟨v0, v1, rfl⟩ : ∃ v0 v1, cs = [v0, v1] := by
    match cs, hl with
    | [a0, a1], _ => exact ⟨a0, a1, rfl⟩
  have h0 := hf 0 _ rfl
  rw [List.getElem?_eq_getElem (show 0 < xs.length by omega)] at h0
  have e0 : Tryz.prog.cellsOf 3 = 1 := by kernel_rfl
  obtain ⟨a0, o0, l0, r0⟩ := (opens_int Tryz.underlying3) H enc W _ _ _ h0
  have q0 : (([v0, v1] : List Value).drop 0).take (Tryz.prog.cellsOf 3) = [v0] := by rw [e0]; rfl
  have h1 := hf 1 _ rfl
  rw [List.getElem?_eq_getElem (show 1 < xs.length by omega)] at h1
  have e1 : Tryz.prog.cellsOf 3 = 1 := by kernel_rfl
  obtain ⟨a1, o1, l1, r1⟩ := (opens_int Tryz.underlying3) H enc W _ _ _ h1
  have q1 : (([v0, v1] : List Value).drop 1).take (Tryz.prog.cellsOf 3) = [v1] := by rw [e1]; rfl
  refine ⟨⟨a0, a1⟩, ⟨o0, o1⟩, rfl, fun i u c hu hv => ?_⟩
  match i, hu, hv with
  | 0, hu, hv => exact r0 0 u c hu (show ((([v0, v1] : List Value).drop 0).take (Tryz.prog.cellsOf 3))[0]? = some c from by rw [q0]; exact hv)
  | 1, hu, hv => exact r1 0 u c hu (show ((([v0, v1] : List Value).drop 1).take (Tryz.prog.cellsOf 3))[0]? = some c from by rw [q1]; exact hv)
  | k + 2, hu, hv => simp at hv
set_option maxRecDepth 100000 in
theorem opens194 : Opens Tryz.prog 194 Frm.ce Frm.wf := by
  intro H enc W fuel cs x h
  obtain ⟨xs, n, rfl, rfl, hl, hn, hf⟩ := DataW.trod_struct Tryz.underlying194 h
  have hc : Tryz.prog.cellsOf 194 = 4 := by kernel_rfl
  rw [hc] at hl
  have hn' : xs.length = 4 := hn
  obtain ⟨v0, v1, v2, v3, rfl⟩ : ∃ v0 v1 v2 v3, cs = [v0, v1, v2, v3] := by
    match cs, hl with
    | [a0, a1, a2, a3], _ => exact ⟨a0, a1, a2, a3, rfl⟩
  have h0 := hf 0 _ rfl
  rw [List.getElem?_eq_getElem (show 0 < xs.length by omega)] at h0
  have e0 : Tryz.prog.cellsOf 3 = 1 := by kernel_rfl
  obtain ⟨a0, o0, l0, r0⟩ := (opens_int Tryz.underlying3) H enc W _ _ _ h0
  have q0 : (([v0, v1, v2, v3] : List Value).drop 0).take (Tryz.prog.cellsOf 3) = [v0] := by rw [e0]; rfl
  have h1 := hf 1 _ rfl
  rw [List.getElem?_eq_getElem (show 1 < xs.length by omega)] at h1
  have e1 : Tryz.prog.cellsOf 3 = 1 := by kernel_rfl
  obtain ⟨a1, o1, l1, r1⟩ := (opens_int Tryz.underlying3) H enc W _ _ _ h1
  have q1 : (([v0, v1, v2, v3] : List Value).drop 1).take (Tryz.prog.cellsOf 3) = [v1] := by rw [e1]; rfl
  have h2 := hf 2 _ rfl
  rw [List.getElem?_eq_getElem (show 2 < xs.length by omega)] at h2
  have e2 : Tryz.prog.cellsOf 3 = 1 := by kernel_rfl
  obtain ⟨a2, o2, l2, r2⟩ := (opens_int Tryz.underlying3) H enc W _ _ _ h2
  have q2 : (([v0, v1, v2, v3] : List Value).drop 2).take (Tryz.prog.cellsOf 3) = [v2] := by rw [e2]; rfl
  have h3 := hf 3 _ rfl
  rw [List.getElem?_eq_getElem (show 3 < xs.length by omega)] at h3
  have e3 : Tryz.prog.cellsOf 3 = 1 := by kernel_rfl
  obtain ⟨a3, o3, l3, r3⟩ := (opens_int Tryz.underlying3) H enc W _ _ _ h3
  have q3 : (([v0, v1, v2, v3] : List Value).drop 3).take (Tryz.prog.cellsOf 3) = [v3] := by rw [e3]; rfl
  refine ⟨⟨a0, a1, a2, a3⟩, ⟨o0, o1, o2, o3⟩, rfl, fun i u c hu hv => ?_⟩
  match i, hu, hv with
  | 0, hu, hv => exact r0 0 u c hu (show ((([v0, v1, v2, v3] : List Value).drop 0).take (Tryz.prog.cellsOf 3))[0]? = some c from by rw [q0]; exact hv)
  | 1, hu, hv => exact r1 0 u c hu (show ((([v0, v1, v2, v3] : List Value).drop 1).take (Tryz.prog.cellsOf 3))[0]? = some c from by rw [q1]; exact hv)
  | 2, hu, hv => exact r2 0 u c hu (show ((([v0, v1, v2, v3] : List Value).drop 2).take (Tryz.prog.cellsOf 3))[0]? = some c from by rw [q2]; exact hv)
  | 3, hu, hv => exact r3 0 u c hu (show ((([v0, v1, v2, v3] : List Value).drop 3).take (Tryz.prog.cellsOf 3))[0]? = some c from by rw [q3]; exact hv)
  | k + 4, hu, hv => simp at hv
set_option maxRecDepth 100000 in
theorem opens196 : Opens Tryz.prog 196 Vl.ce Vl.wf := by
  intro H enc W fuel cs x h
  obtain ⟨xs, n, rfl, rfl, hl, hn, hf⟩ := DataW.trod_struct Tryz.underlying196 h
  have hc : Tryz.prog.cellsOf 196 = 4 := by kernel_rfl
  rw [hc] at hl
  have hn' : xs.length = 4 := hn
  obtain ⟨v0, v1, v2, v3, rfl⟩ : ∃ v0 v1 v2 v3, cs = [v0, v1, v2, v3] := by
    match cs, hl with
    | [a0, a1, a2, a3], _ => exact ⟨a0, a1, a2, a3, rfl⟩
  have h0 := hf 0 _ rfl
  rw [List.getElem?_eq_getElem (show 0 < xs.length by omega)] at h0
  have e0 : Tryz.prog.cellsOf 4 = 1 := by kernel_rfl
  obtain ⟨a0, o0, l0, r0⟩ := (opens_bool Tryz.underlying4) H enc W _ _ _ h0
  have q0 : (([v0, v1, v2, v3] : List Value).drop 0).take (Tryz.prog.cellsOf 4) = [v0] := by rw [e0]; rfl
  have h1 := hf 1 _ rfl
  rw [List.getElem?_eq_getElem (show 1 < xs.length by omega)] at h1
  have e1 : Tryz.prog.cellsOf 3 = 1 := by kernel_rfl
  obtain ⟨a1, o1, l1, r1⟩ := (opens_int Tryz.underlying3) H enc W _ _ _ h1
  have q1 : (([v0, v1, v2, v3] : List Value).drop 1).take (Tryz.prog.cellsOf 3) = [v1] := by rw [e1]; rfl
  have h2 := hf 2 _ rfl
  rw [List.getElem?_eq_getElem (show 2 < xs.length by omega)] at h2
  have e2 : Tryz.prog.cellsOf 3 = 1 := by kernel_rfl
  obtain ⟨a2, o2, l2, r2⟩ := (opens_int Tryz.underlying3) H enc W _ _ _ h2
  have q2 : (([v0, v1, v2, v3] : List Value).drop 2).take (Tryz.prog.cellsOf 3) = [v2] := by rw [e2]; rfl
  have h3 := hf 3 _ rfl
  rw [List.getElem?_eq_getElem (show 3 < xs.length by omega)] at h3
  have e3 : Tryz.prog.cellsOf 3 = 1 := by kernel_rfl
  obtain ⟨a3, o3, l3, r3⟩ := (opens_int Tryz.underlying3) H enc W _ _ _ h3
  have q3 : (([v0, v1, v2, v3] : List Value).drop 3).take (Tryz.prog.cellsOf 3) = [v3] := by rw [e3]; rfl
  refine ⟨⟨a0, a1, a2, a3⟩, ⟨o0, o1, o2, o3⟩, rfl, fun i u c hu hv => ?_⟩
  match i, hu, hv with
  | 0, hu, hv => exact r0 0 u c hu (show ((([v0, v1, v2, v3] : List Value).drop 0).take (Tryz.prog.cellsOf 4))[0]? = some c from by rw [q0]; exact hv)
  | 1, hu, hv => exact r1 0 u c hu (show ((([v0, v1, v2, v3] : List Value).drop 1).take (Tryz.prog.cellsOf 3))[0]? = some c from by rw [q1]; exact hv)
  | 2, hu, hv => exact r2 0 u c hu (show ((([v0, v1, v2, v3] : List Value).drop 2).take (Tryz.prog.cellsOf 3))[0]? = some c from by rw [q2]; exact hv)
  | 3, hu, hv => exact r3 0 u c hu (show ((([v0, v1, v2, v3] : List Value).drop 3).take (Tryz.prog.cellsOf 3))[0]? = some c from by rw [q3]; exact hv)
  | k + 4, hu, hv => simp at hv
set_option maxRecDepth 100000 in
theorem opens198 : Opens Tryz.prog 198 Bd.ce Bd.wf := by
  intro H enc W fuel cs x h
  obtain ⟨xs, n, rfl, rfl, hl, hn, hf⟩ := DataW.trod_struct Tryz.underlying198 h
  have hc : Tryz.prog.cellsOf 198 = 2 := by kernel_rfl
  rw [hc] at hl
  have hn' : xs.length = 2 := hn
  obtain ⟨v0, v1, rfl⟩ : ∃ v0 v1, cs = [v0, v1] := by
    match cs, hl with
    | [a0, a1], _ => exact ⟨a0, a1, rfl⟩
  have h0 := hf 0 _ rfl
  rw [List.getElem?_eq_getElem (show 0 < xs.length by omega)] at h0
  have e0 : Tryz.prog.cellsOf 3 = 1 := by kernel_rfl
  obtain ⟨a0, o0, l0, r0⟩ := (opens_int Tryz.underlying3) H enc W _ _ _ h0
  have q0 : (([v0, v1] : List Value).drop 0).take (Tryz.prog.cellsOf 3) = [v0] := by rw [e0]; rfl
  have h1 := hf 1 _ rfl
  rw [List.getElem?_eq_getElem (show 1 < xs.length by omega)] at h1
  have e1 : Tryz.prog.cellsOf 3 = 1 := by kernel_rfl
  obtain ⟨a1, o1, l1, r1⟩ := (opens_int Tryz.underlying3) H enc W _ _ _ h1
  have q1 : (([v0, v1] : List Value).drop 1).take (Tryz.prog.cellsOf 3) = [v1] := by rw [e1]; rfl
  refine ⟨⟨a0, a1⟩, ⟨o0, o1⟩, rfl, fun i u c hu hv => ?_⟩
  match i, hu, hv with
  | 0, hu, hv => exact r0 0 u c hu (show ((([v0, v1] : List Value).drop 0).take (Tryz.prog.cellsOf 3))[0]? = some c from by rw [q0]; exact hv)
  | 1, hu, hv => exact r1 0 u c hu (show ((([v0, v1] : List Value).drop 1).take (Tryz.prog.cellsOf 3))[0]? = some c from by rw [q1]; exact hv)
  | k + 2, hu, hv => simp at hv
set_option maxRecDepth 100000 in
theorem opens66 : Opens Tryz.prog 66 Mch.ce Mch.wf := by
  intro H enc W fuel cs x h
  obtain ⟨xs, n, rfl, rfl, hl, hn, hf⟩ := DataW.trod_struct Tryz.underlying66 h
  have hc : Tryz.prog.cellsOf 66 = 7 := by kernel_rfl
  rw [hc] at hl
  have hn' : xs.length = 7 := hn
  obtain ⟨v0, v1, v2, v3, v4, v5, v6, rfl⟩ : ∃ v0 v1 v2 v3 v4 v5 v6, cs = [v0, v1, v2, v3, v4, v5, v6] := by
    match cs, hl with
    | [a0, a1, a2, a3, a4, a5, a6], _ => exact ⟨a0, a1, a2, a3, a4, a5, a6, rfl⟩
  have h0 := hf 0 _ rfl
  rw [List.getElem?_eq_getElem (show 0 < xs.length by omega)] at h0
  have e0 : Tryz.prog.cellsOf 4 = 1 := by kernel_rfl
  obtain ⟨a0, o0, l0, r0⟩ := (opens_bool Tryz.underlying4) H enc W _ _ _ h0
  have q0 : (([v0, v1, v2, v3, v4, v5, v6] : List Value).drop 0).take (Tryz.prog.cellsOf 4) = [v0] := by rw [e0]; rfl
  have h1 := hf 1 _ rfl
  rw [List.getElem?_eq_getElem (show 1 < xs.length by omega)] at h1
  have e1 : Tryz.prog.cellsOf 3 = 1 := by kernel_rfl
  obtain ⟨a1, o1, l1, r1⟩ := (opens_int Tryz.underlying3) H enc W _ _ _ h1
  have q1 : (([v0, v1, v2, v3, v4, v5, v6] : List Value).drop 1).take (Tryz.prog.cellsOf 3) = [v1] := by rw [e1]; rfl
  have h2 := hf 2 _ rfl
  rw [List.getElem?_eq_getElem (show 2 < xs.length by omega)] at h2
  have e2 : Tryz.prog.cellsOf 3 = 1 := by kernel_rfl
  obtain ⟨a2, o2, l2, r2⟩ := (opens_int Tryz.underlying3) H enc W _ _ _ h2
  have q2 : (([v0, v1, v2, v3, v4, v5, v6] : List Value).drop 2).take (Tryz.prog.cellsOf 3) = [v2] := by rw [e2]; rfl
  have h3 := hf 3 _ rfl
  rw [List.getElem?_eq_getElem (show 3 < xs.length by omega)] at h3
  have e3 : Tryz.prog.cellsOf 3 = 1 := by kernel_rfl
  obtain ⟨a3, o3, l3, r3⟩ := (opens_int Tryz.underlying3) H enc W _ _ _ h3
  have q3 : (([v0, v1, v2, v3, v4, v5, v6] : List Value).drop 3).take (Tryz.prog.cellsOf 3) = [v3] := by rw [e3]; rfl
  have h4 := hf 4 _ rfl
  rw [List.getElem?_eq_getElem (show 4 < xs.length by omega)] at h4
  have e4 : Tryz.prog.cellsOf 62 = 1 := by kernel_rfl
  obtain ⟨a4, o4, l4, r4⟩ := (opens_slice (e := 194) (sz := 4) Tryz.underlying62 (by kernel_rfl) (by decide) (fun _ => rfl) opens194) H enc W _ _ _ h4
  have q4 : (([v0, v1, v2, v3, v4, v5, v6] : List Value).drop 4).take (Tryz.prog.cellsOf 62) = [v4] := by rw [e4]; rfl
  have h5 := hf 5 _ rfl
  rw [List.getElem?_eq_getElem (show 5 < xs.length by omega)] at h5
  have e5 : Tryz.prog.cellsOf 63 = 1 := by kernel_rfl
  obtain ⟨a5, o5, l5, r5⟩ := (opens_slice (e := 196) (sz := 4) Tryz.underlying63 (by kernel_rfl) (by decide) (fun _ => rfl) opens196) H enc W _ _ _ h5
  have q5 : (([v0, v1, v2, v3, v4, v5, v6] : List Value).drop 5).take (Tryz.prog.cellsOf 63) = [v5] := by rw [e5]; rfl
  have h6 := hf 6 _ rfl
  rw [List.getElem?_eq_getElem (show 6 < xs.length by omega)] at h6
  have e6 : Tryz.prog.cellsOf 64 = 1 := by kernel_rfl
  obtain ⟨a6, o6, l6, r6⟩ := (opens_slice (e := 198) (sz := 2) Tryz.underlying64 (by kernel_rfl) (by decide) (fun _ => rfl) opens198) H enc W _ _ _ h6
  have q6 : (([v0, v1, v2, v3, v4, v5, v6] : List Value).drop 6).take (Tryz.prog.cellsOf 64) = [v6] := by rw [e6]; rfl
  refine ⟨⟨a0, a1, a2, a3, a4, a5, a6⟩, ⟨o0, o1, o2, o3, o4, o5, o6⟩, rfl, fun i u c hu hv => ?_⟩
  match i, hu, hv with
  | 0, hu, hv => exact r0 0 u c hu (show ((([v0, v1, v2, v3, v4, v5, v6] : List Value).drop 0).take (Tryz.prog.cellsOf 4))[0]? = some c from by rw [q0]; exact hv)
  | 1, hu, hv => exact r1 0 u c hu (show ((([v0, v1, v2, v3, v4, v5, v6] : List Value).drop 1).take (Tryz.prog.cellsOf 3))[0]? = some c from by rw [q1]; exact hv)
  | 2, hu, hv => exact r2 0 u c hu (show ((([v0, v1, v2, v3, v4, v5, v6] : List Value).drop 2).take (Tryz.prog.cellsOf 3))[0]? = some c from by rw [q2]; exact hv)
  | 3, hu, hv => exact r3 0 u c hu (show ((([v0, v1, v2, v3, v4, v5, v6] : List Value).drop 3).take (Tryz.prog.cellsOf 3))[0]? = some c from by rw [q3]; exact hv)
  | 4, hu, hv => exact r4 0 u c hu (show ((([v0, v1, v2, v3, v4, v5, v6] : List Value).drop 4).take (Tryz.prog.cellsOf 62))[0]? = some c from by rw [q4]; exact hv)
  | 5, hu, hv => exact r5 0 u c hu (show ((([v0, v1, v2, v3, v4, v5, v6] : List Value).drop 5).take (Tryz.prog.cellsOf 63))[0]? = some c from by rw [q5]; exact hv)
  | 6, hu, hv => exact r6 0 u c hu (show ((([v0, v1, v2, v3, v4, v5, v6] : List Value).drop 6).take (Tryz.prog.cellsOf 64))[0]? = some c from by rw [q6]; exact hv)
  | k + 7, hu, hv => simp at hv
theorem own : ownKnob Tryz.prog.godebug = none := by kernel_rfl
theorem laidOut : laidOutB Tryz.prog = true := by kernel_rfl
set_option maxRecDepth 100000 in
theorem lifted (os : Os) (started : os.Started) (H : Type) (enc : TypeId × Value → H) :
    ReturnsInHanded {} Tryz.checked os 5 .any (Rows.fnExactStepMachineSpec.pre6 enc Tryz.prog Tryz.f5 Rows.fnExactStepMachineRow.domain false) (Rows.fnExactStepMachineSpec.post enc Tryz.prog Tryz.f5 false true false false) := by
  refine returnsInHanded_of_change_sized (C := Tryz.checked) own started (by kernel_rfl) Tryz.func5
    (ChangeSpec.witness6 (enc := enc) (C := Tryz.checked) false ⟨#[], #[.slice none 0 0, .agg #[.bool false, .int .i64 0, .int .i64 0, .int .i64 0, .slice none 0 0, .slice none 0 0, .slice none 0 0]], []⟩ 8 (by kernel_rfl) (by kernel_rfl) (by kernel_rfl) (by kernel_rfl)) ?_
  intro W base args ds gs before hval0 hW hcnd hsz0 _
  have hval : ∀ (j : Nat) t v, Tryz.f5.params[j]? = some t → args[j]? = some v → Value.okWide Tryz.prog W .any base t v := hval0
  have hW' := hW
  obtain ⟨p, q, hA0, hV, rfl, hfz, hnd⟩ := hW
  have hA : DataW.TrodAll enc Tryz.prog W 0 (fun _ => true) true Tryz.f5.params.toList args.toList ds p := hA0
  rw [Tryz.params5] at hA hval
  obtain ⟨v0, vs0, d0, ds0, p0, q0, hargs, rfl, rfl, h0, r0⟩ := trodAll_cons hA
  obtain ⟨v1, vs1, d1, ds1, p1, q1, rfl, rfl, rfl, h1, r1⟩ := trodAll_cons r0
  obtain ⟨rfl, rfl, rfl⟩ := trodAll_nil r1
  obtain rfl : args = #[v0, v1] := by cases args; simp_all
  obtain ⟨rfl, rfl⟩ := trodVars_none hV
  have k0 := h0
  have lt0 : ∀ x ∈ p0, x.block < W.heap.size := by obtain ⟨m, hm⟩ := k0; exact DataW.trod_lt m _ _ _ hm
  obtain ⟨b0, len0, cap0, rfl⟩ := okWide_slice Tryz.underlying61 (hval 0 61 v0 rfl rfl)
  obtain ⟨fuel0, hf0⟩ := h0
  obtain ⟨y0, o0, _, e0⟩ := (opens_slice (e := 124) (sz := 2) Tryz.underlying61 (by kernel_rfl) (by decide) (fun _ => rfl) opens124) H enc W _ _ _ hf0
  have k1 := h1
  have lt1 : ∀ x ∈ p1, x.block < W.heap.size := by obtain ⟨m, hm⟩ := k1; exact DataW.trod_lt m _ _ _ hm
  obtain ⟨cs1, rfl, _⟩ := okWide_struct Tryz.underlying66 (hval 1 66 v1 rfl rfl)
  obtain ⟨y1, o1, l1, e1⟩ : ∃ y, Mch.wf y ∧ cs1.toList.length = (Mch.ce y).length ∧ ∀ (i : Nat) (u : T) (c : Value), (Mch.ce y)[i]? = some u → cs1.toList[i]? = some c → RepT W (fun b => b < W.heap.size) u c := by obtain ⟨fuel, hf⟩ := h1; exact opens66 H enc W _ _ _ hf
  clear hA0 hval0 hsz0
  have hE := law_ev y0 o0 y1 o1
  refine (law_calls (by kernel_rfl) prim_none hE ⟨rfl, fun i v hi => ?_⟩).mono fun e W' ⟨he, bel⟩ => ?_
  · match i, hi with
    | 0, hi => obtain rfl := Option.some.inj hi; exact rep_one e0
    | 1, hi => obtain rfl := Option.some.inj hi; exact rep_agg (by simpa using l1.symm) e1
    | k + 2, hi => simp at hi
  · subst he
    exact ⟨_, rfl, _, _, _, [], _, [], hW', trodAll_mk1 (shut_bool Tryz.underlying4 _), (trodAll_cons_mk (Below.trod laidOut (by kernel_rfl) (of_decide_eq_true (by kernel_rfl)) k0 bel lt0) (trodAll_cons_mk (Below.trod laidOut (by kernel_rfl) (of_decide_eq_true (by kernel_rfl)) k1 bel lt1) trodAll_mk0)), rfl, bel.frame _, fun h => by cases h⟩
theorem over : Rows.fnExactStepMachineRow.holds Tryz.pinned (OpenSpec.ofChange Rows.fnExactStepMachineSpec) :=
  OpenClaim.holds_of_wide 5 Tryz.f5 rfl rfl rfl rfl rfl rfl rfl ⟨rfl, rfl, rfl, rfl, rfl⟩ rfl rfl rfl rfl rfl (by kernel_rfl) Tryz.func5 (by kernel_rfl)
    (of_decide_eq_true (by kernel_rfl)) (by unfold Func.isWrapper; first | (rw [if_pos (by decide +kernel)]; kernel_rfl) | (rw [if_neg (by decide +kernel)]; exact ⟨rfl, rfl⟩))
    (fun os started H enc _ => lifted os started H enc)
theorem proved : Rows.FnExactStepMachineSaid := over
#print axioms proved
end Go.Proofs.YtdbpimeaipgpfabGreat.fnExactStepMachine
namespace Go.Proofs.YtdbpimeaipgpfabGreat
/-- The row, under a short name, for the claim. -/
theorem fnExactStepMachine_holds : Rows.FnExactStepMachineSaid := fnExactStepMachine.proved
end Go.Proofs.YtdbpimeaipgpfabGreat
