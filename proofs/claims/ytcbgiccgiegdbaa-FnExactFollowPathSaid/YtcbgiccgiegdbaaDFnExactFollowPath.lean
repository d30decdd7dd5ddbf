-- WRITTEN BY law.py, a program of this session. Not trusted: Lean checks it.
import Derived.Test.YtcbgiccgiegdbaaPFnExactFollowPathx6
import Derived.Test.YtcbgiccgiegdbaaO
import Derived.KernelRfl
namespace Go.Proofs.Ytcbgiccgiegdbaa.PFnExactFollowPath
open Go.RowKit Go.Proofs.YtcbgiccgiegdbaaW.PrintWords Go.Proofs.YtcbgiccgiegdbaaW.PrintLast Go.Proofs.YtcbgiccgiegdbaaO
set_option linter.unusedVariables false
/-- What is known of an argument of struct type 90. -/
def Ok90 (x : S90) : Prop := ((Lit.int .i64 x.f0).wf = true) ∧ (x.f1.length ≤ 9223372036854775807 ∧ ∀ y ∈ x.f1, ((Lit.int .i64 y).wf = true))
set_option maxRecDepth 100000 in
theorem opens90 : Opens Try.prog 90 k90 Ok90 := by
  intro H enc W fuel cs x h
  obtain ⟨xs, n, rfl, rfl, hl, hn, hf⟩ := DataW.trod_struct Try.underlying90 h
  have hc : Try.prog.cellsOf 90 = 2 := by kernel_rfl
  rw [hc] at hl
  have hn' : xs.length = 2 := hn
  obtain ⟨v0, v1, rfl⟩ : ∃ v0 v1, cs = [v0, v1] := by
    match cs, hl with
    | [a0, a1], _ => exact ⟨a0, a1, rfl⟩
  have h0 := hf 0 _ rfl
  rw [List.getElem?_eq_getElem (show 0 < xs.length by omega)] at h0
  have e0 : Try.prog.cellsOf 3 = 1 := by kernel_rfl
  obtain ⟨a0, q0, o0⟩ := (opens_int Try.underlying3) H enc W _ _ _ h0
  have q0' : ((Kd.int .i64)).K W a0 [v0] := by
    have e : (([v0, v1] : List Value).drop 0).take (Try.prog.cellsOf 3) = [v0] := by rw [e0]; rfl
    rw [← e]
    exact q0
  have h1 := hf 1 _ rfl
  rw [List.getElem?_eq_getElem (show 1 < xs.length by omega)] at h1
  have e1 : Try.prog.cellsOf 26 = 1 := by kernel_rfl
  obtain ⟨a1, q1, o1⟩ := (opens_slice (e' := 3) Try.underlying26 (by kernel_rfl) (opens_int Try.underlying3)) H enc W _ _ _ h1
  have q1' : ((Kd.slice 3 (Kd.int .i64))).K W a1 [v1] := by
    have e : (([v0, v1] : List Value).drop 1).take (Try.prog.cellsOf 26) = [v1] := by rw [e1]; rfl
    rw [← e]
    exact q1
  exact ⟨⟨a0, a1⟩, ⟨[v0], [v1], rfl, q0', q1'⟩, ⟨o0, o1⟩⟩
/-- What is known of an argument of struct type 38. -/
def Ok38 (x : S38) : Prop := (x.f0.length ≤ 9223372036854775807 ∧ ∀ y ∈ x.f0, Ok90 y) ∧ (x.f1.length ≤ 9223372036854775807 ∧ ∀ y ∈ x.f1, ((Lit.int .i64 y).wf = true))
set_option maxRecDepth 100000 in
theorem opens38 : Opens Try.prog 38 k38 Ok38 := by
  intro H enc W fuel cs x h
  obtain ⟨xs, n, rfl, rfl, hl, hn, hf⟩ := DataW.trod_struct Try.underlying38 h
  have hc : Try.prog.cellsOf 38 = 2 := by kernel_rfl
  rw [hc] at hl
  have hn' : xs.length = 2 := hn
  obtain ⟨v0, v1, rfl⟩ : ∃ v0 v1, cs = [v0, v1] := by
    match cs, hl with
    | [a0, a1], _ => exact ⟨a0, a1, rfl⟩
  have h0 := hf 0 _ rfl
  rw [List.getElem?_eq_getElem (show 0 < xs.length by omega)] at h0
  have e0 : Try.prog.cellsOf 36 = 1 := by kernel_rfl
  obtain ⟨a0, q0, o0⟩ := (opens_slice (e' := 90) Try.underlying36 (by kernel_rfl) opens90) H enc W _ _ _ h0
  have q0' : ((Kd.slice 90 k90)).K W a0 [v0] := by
    have e : (([v0, v1] : List Value).drop 0).take (Try.prog.cellsOf 36) = [v0] := by rw [e0]; rfl
    rw [← e]
    exact q0
  have h1 := hf 1 _ rfl
  rw [List.getElem?_eq_getElem (show 1 < xs.length by omega)] at h1
  have e1 : Try.prog.cellsOf 26 = 1 := by kernel_rfl
  obtain ⟨a1, q1, o1⟩ := (opens_slice (e' := 3) Try.underlying26 (by kernel_rfl) (opens_int Try.underlying3)) H enc W _ _ _ h1
  have q1' : ((Kd.slice 3 (Kd.int .i64))).K W a1 [v1] := by
    have e : (([v0, v1] : List Value).drop 1).take (Try.prog.cellsOf 26) = [v1] := by rw [e1]; rfl
    rw [← e]
    exact q1
  exact ⟨⟨a0, a1⟩, ⟨[v0], [v1], rfl, q0', q1'⟩, ⟨o0, o1⟩⟩
/-- THE ONE PURE STATEMENT that is left. -/
def laws_FnExactFollowPath.Pure0 : Prop := ∀ (l0_0 : List (S90)) (l0_1 : List Int) (a1 : Int) (l2 : List Int), (l0_0.length ≤ 9223372036854775807 ∧ ∀ y ∈ l0_0, Ok90 y) → (l0_1.length ≤ 9223372036854775807 ∧ ∀ y ∈ l0_1, ((Lit.int .i64 y).wf = true)) → (Lit.int .i64 a1).wf = true → (l2.length ≤ 9223372036854775807 ∧ ∀ y ∈ l2, ((Lit.int .i64 y).wf = true)) → ∃ k, laws_FnExactFollowPath.f k l0_0 l0_1 a1 l2 = some true
end Go.Proofs.Ytcbgiccgiegdbaa.PFnExactFollowPath
