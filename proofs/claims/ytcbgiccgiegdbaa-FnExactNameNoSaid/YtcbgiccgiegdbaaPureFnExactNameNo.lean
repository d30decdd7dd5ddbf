/- FnExactNameNo: at every text NameNo of the program answers as NameNo of the reference; no condition. -/
import Derived.Test.YtcbgiccgiegdbaaPFnExactNameNox1
namespace Go.Proofs.Ytcbgiccgiegdbaa.Pure
open Go.RowKit Go.Proofs.Ytcbgiccgiegdbaa.PFnExactNameNo Go.Proofs.YtcbgiccgiegdbaaW.PrintWords Go.Proofs.YtcbgiccgiegdbaaW.PrintLast

theorem FnExactNameNo : laws_FnExactNameNo.Pure := by
  intro a0 h0
  unfold laws_FnExactNameNo.f spec_NameNo.f impl_NameNo.f impl_nameNo.f
  by_cases h1 : (a0.size : Int) > 1048576
  · simp [h1]
  · simp only [h1, if_false]
    by_cases h2 : (a0.size : Int) = 1
    · have h3 : 0 < (a0.size : Int) := by omega
      simp only [h2, if_true]
      by_cases h4 : bt a0 0 < 97
      · simp [h4]
      · by_cases h5 : bt a0 0 > 106
        · simp [h4, h5]
        · have h6 : 0 ≤ (bt a0 0 - 97) % 256 := by omega
          have h7 : ¬ ((bt a0 0 - 97) % 256 < 0) := by omega
          simp [h4, h5, h7]
    · simp [h2]

end Go.Proofs.Ytcbgiccgiegdbaa.Pure
