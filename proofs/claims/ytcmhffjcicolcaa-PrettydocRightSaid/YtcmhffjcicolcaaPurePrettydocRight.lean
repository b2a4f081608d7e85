/- Right, Size and Groups of the program agree with the reference's for any document; no condition. -/
import Derived.Test.YtcmhffjcicolcaaPAx11
import Derived.Test.YtcmhffjcicolcaaPl2
import Derived.Test.YtcmhffjcicolcaaPlk
namespace Go.Proofs.Ytcmhffjcicolcaa.Pure
open Go.RowKit Go.Proofs.Ytcmhffjcicolcaa.PA Go.Proofs.YtcmhffjcicolcaaW.PrintWords Go.Proofs.YtcmhffjcicolcaaW.PrintLast
theorem PrettydocRight : arboristlaw54_PrettydocRight.Pure := by
  intro x hw
  refine Ev.rounds (g := fun k => arboristlaw54_PrettydocRight.f k x.f0 x.f1 x.f2 x.f3) (r := true) ?_
  unfold arboristlaw54_PrettydocRight.f
  refine Ev.bind (few_ev x hw 9000 (by omega) (by omega)) ?_
  by_cases h1 : wT x 9000 ≤ 9000
  · have hg : gT x ≤ 1000000 := by
      have h2 := light x 9000 h1
      have h3 := gT_le x
      omega
    simp only [decide_eq_true h1, if_true]
    refine Ev.bind (pRight_ev x hw) (Ev.bind (rRight_ev x hw) ?_)
    simp only [if_true]
    refine Ev.bind (pSize_ev x hw) (Ev.bind (rSize_ev x hw) ?_)
    simp only [if_true]
    refine Ev.bind (pgroups_ev x hw hg) (Ev.bind (rgroups_ev x hw hg) ?_)
    simp only [if_true]
    exact Ev.bind knows_ev (Ev.now _)
  · simp only [decide_eq_false h1, Bool.false_eq_true, if_false]
    exact Ev.bind knows_ev (Ev.now _)
end Go.Proofs.Ytcmhffjcicolcaa.Pure
