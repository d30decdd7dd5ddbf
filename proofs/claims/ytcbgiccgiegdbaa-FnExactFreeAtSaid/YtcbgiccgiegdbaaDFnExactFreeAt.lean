-- WRITTEN BY law.py, a program of this session. Not trusted: Lean checks it.
import Derived.Test.YtcbgiccgiegdbaaPFnExactFreeAtx5
import Derived.Test.YtcbgiccgiegdbaaO
import Derived.KernelRfl
namespace Go.Proofs.Ytcbgiccgiegdbaa.PFnExactFreeAt
open Go.RowKit Go.Proofs.YtcbgiccgiegdbaaW.PrintWords Go.Proofs.YtcbgiccgiegdbaaW.PrintLast Go.Proofs.YtcbgiccgiegdbaaO
set_option linter.unusedVariables false
/-- What is known of an argument of struct type 64. -/
def Ok64 (x : S64) : Prop := ((Lit.int .i64 x.f0).wf = true) ∧ ((Lit.int .i64 x.f1).wf = true)
set_option maxRecDepth 100000 in
theorem opens64 : Opens Try.prog 64 k64 Ok64 := by
  intro H enc W fuel cs x h
  obtain ⟨xs, n, rfl, rfl, hl, hn, hf⟩ := DataW.trod_struct Try.underlying64 h
  have hc : Try.prog.cellsOf 64 = 2 := by kernel_rfl
  rw [hc] at hl
  have hn' : xs.length = 2 := hn
  obtain ⟨v0, v1, rfl⟩ : ∃ v0 v1, cs = [v0, v1] := by
    match cs, hl with
    | [a0, a1], _ => exact ⟨a0, a1, rfl⟩
  have h0 := hf 0 _ rfl
  rw [List.getElem?_eq_getElem (show 0 < xs.length by omega)] at h0
  have e0 : Try.prog.cellsOf 3 = 1 := by kernel_rfl
  obtain ⟨a0, q0, o0⟩ := (opens_int Try.underlying3) H enc W _ _ _ h0
  have q0' : ((Kd.int .i64)).K W a0 [v0] := by
    have e : (([v0, v1] : List Value).drop 0).take (Try.prog.cellsOf 3) = [v0] := by rw [e0]; rfl
    rw [← e]
    exact q0
  have h1 := hf 1 _ rfl
  rw [List.getElem?_eq_getElem (show 1 < xs.length by omega)] at h1
  have e1 : Try.prog.cellsOf 3 = 1 := by kernel_rfl
  obtain ⟨a1, q1, o1⟩ := (opens_int Try.underlying3) H enc W _ _ _ h1
  have q1' : ((Kd.int .i64)).K W a1 [v1] := by
    have e : (([v0, v1] : List Value).drop 1).take (Try.prog.cellsOf 3) = [v1] := by rw [e1]; rfl
    rw [← e]
    exact q1
  exact ⟨⟨a0, a1⟩, ⟨[v0], [v1], rfl, q0', q1'⟩, ⟨o0, o1⟩⟩
/-- THE ONE PURE STATEMENT that is left. -/
def laws_FnExactFreeAt.Pure0 : Prop := ∀ (l0 : List (S64)) (l1 : List Int) (a2 : Int), (l0.length ≤ 9223372036854775807 ∧ ∀ y ∈ l0, Ok64 y) → (l1.length ≤ 9223372036854775807 ∧ ∀ y ∈ l1, ((Lit.int .i64 y).wf = true)) → (Lit.int .i64 a2).wf = true → ∃ k, laws_FnExactFreeAt.f k l0 l1 a2 = some true
end Go.Proofs.Ytcbgiccgiegdbaa.PFnExactFreeAt
