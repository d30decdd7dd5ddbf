-- WRITTEN BY law.py, a program of this session. Not trusted: Lean checks it.
import Derived.Test.YtipolnpffmfmmabPFnExactDepthOfCodex11
import Derived.Test.YtipolnpffmfmmabO
import Derived.KernelRfl
namespace Go.Proofs.Ytipolnpffmfmmab.PFnExactDepthOfCode
open Go.RowKit Go.Proofs.YtipolnpffmfmmabW.PrintWords Go.Proofs.YtipolnpffmfmmabW.PrintLast Go.Proofs.YtipolnpffmfmmabO
set_option linter.unusedVariables false
/-- What is known of an argument of struct type 89. -/
def Ok89 (x : S89) : Prop := ((Lit.int .i64 x.f0).wf = true) ∧ ((Lit.int .i64 x.f1).wf = true) ∧ (x.f2.size ≤ 9223372036854775807)
set_option maxRecDepth 100000 in
theorem opens89 : Opens Try.prog 89 k89 Ok89 := by
  intro H enc W fuel cs x h
  obtain ⟨xs, n, rfl, rfl, hl, hn, hf⟩ := DataW.trod_struct Try.underlying89 h
  have hc : Try.prog.cellsOf 89 = 3 := by kernel_rfl
  rw [hc] at hl
  have hn' : xs.length = 3 := hn
  obtain ⟨v0, v1, v2, rfl⟩ : ∃ v0 v1 v2, cs = [v0, v1, v2] := by
    match cs, hl with
    | [a0, a1, a2], _ => exact ⟨a0, a1, a2, rfl⟩
  have h0 := hf 0 _ rfl
  rw [List.getElem?_eq_getElem (show 0 < xs.length by omega)] at h0
  have e0 : Try.prog.cellsOf 3 = 1 := by kernel_rfl
  obtain ⟨a0, q0, o0⟩ := (opens_int Try.underlying3) H enc W _ _ _ h0
  have q0' : ((Kd.int .i64)).K W a0 [v0] := by
    have e : (([v0, v1, v2] : List Value).drop 0).take (Try.prog.cellsOf 3) = [v0] := by rw [e0]; rfl
    rw [← e]
    exact q0
  have h1 := hf 1 _ rfl
  rw [List.getElem?_eq_getElem (show 1 < xs.length by omega)] at h1
  have e1 : Try.prog.cellsOf 3 = 1 := by kernel_rfl
  obtain ⟨a1, q1, o1⟩ := (opens_int Try.underlying3) H enc W _ _ _ h1
  have q1' : ((Kd.int .i64)).K W a1 [v1] := by
    have e : (([v0, v1, v2] : List Value).drop 1).take (Try.prog.cellsOf 3) = [v1] := by rw [e1]; rfl
    rw [← e]
    exact q1
  have h2 := hf 2 _ rfl
  rw [List.getElem?_eq_getElem (show 2 < xs.length by omega)] at h2
  have e2 : Try.prog.cellsOf 9 = 1 := by kernel_rfl
  obtain ⟨a2, q2, o2⟩ := (opens_string Try.underlying9) H enc W _ _ _ h2
  have q2' : (Kd.string).K W a2 [v2] := by
    have e : (([v0, v1, v2] : List Value).drop 2).take (Try.prog.cellsOf 9) = [v2] := by rw [e2]; rfl
    rw [← e]
    exact q2
  exact ⟨⟨a0, a1, a2⟩, ⟨[v0], [v1, v2], rfl, q0', ⟨[v1], [v2], rfl, q1', q2'⟩⟩, ⟨o0, o1, o2⟩⟩
/-- THE ONE PURE STATEMENT that is left. -/
def laws_FnExactDepthOfCode.Pure0 : Prop := ∀ (l0 : List (S89)), (l0.length ≤ 9223372036854775807 ∧ ∀ y ∈ l0, Ok89 y) → ∃ k, laws_FnExactDepthOfCode.f k l0 = some true
end Go.Proofs.Ytipolnpffmfmmab.PFnExactDepthOfCode
