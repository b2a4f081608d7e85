/- Same of the program agrees with the reference's for any two documents, and every document is Same to itself; no condition. -/
import Derived.Test.YtcmhffjcicolcaaPAx18
import Derived.Test.YtcmhffjcicolcaaPl3
import Derived.Test.YtcmhffjcicolcaaPlk
-- needs: arboristlaw54_PrettydocSame
namespace Go.Proofs.Ytcmhffjcicolcaa.Pure
open Go.RowKit Go.Proofs.Ytcmhffjcicolcaa.PA Go.Proofs.YtcmhffjcicolcaaW.PrintWords Go.Proofs.YtcmhffjcicolcaaW.PrintLast
set_option linter.unusedVariables false
set_option linter.unusedSimpArgs false
theorem PrettydocSame : arboristlaw54_PrettydocSame.Pure := by
  intro x y hw hv
  refine Ev.rounds (g := fun k => arboristlaw54_PrettydocSame.f k x.f0 x.f1 x.f2 x.f3 y.f0 y.f1 y.f2 y.f3) (r := true) ?_
  have out : ∀ c : Bool, Ev (fun k => arboristlaw54_PrettydocSame.j0 k c x.f0 x.f1 x.f2 x.f3 y.f0 y.f1 y.f2 y.f3) true := by
    intro c
    cases c with
    | true =>
      refine Ev.step (f := fun k => (arboristlaw54_knows.f k).bind fun t => some t) (fun k => ?_) (Ev.bind knows_ev (Ev.now _))
      simp only [arboristlaw54_PrettydocSame.j0, if_true]
    | false =>
      refine Ev.step (f := fun k => (prettydoc_Same.f k x.f0 x.f1 x.f2 x.f3 y.f0 y.f1 y.f2 y.f3).bind fun t253 => ((arboristref54_Same.f k x.f0 x.f1 x.f2 x.f3 y.f0 y.f1 y.f2 y.f3).bind fun t254 => (if (t253 == t254) = true then ((prettydoc_Same.f k x.f0 x.f1 x.f2 x.f3 x.f0 x.f1 x.f2 x.f3).bind fun t255 => (if t255 = true then ((arboristlaw54_knows.f k).bind fun t256 => (some t256)) else (none))) else (none)))) (fun k => ?_) ?_
      · simp only [arboristlaw54_PrettydocSame.j0]; rfl
      · refine Ev.bind (psame_ev x y hw hv) (Ev.bind (rsame_ev x y hw hv) ?_)
        simp only [beq_self_eq_true, if_true]
        refine Ev.bind (psame_ev x x hw hw) ?_
        simp only [sT_refl, if_true]
        exact Ev.bind knows_ev (Ev.now _)
  unfold arboristlaw54_PrettydocSame.f
  refine Ev.bind (few_ev x hw 500 (by omega) (by omega)) ?_
  by_cases h1 : wT x 500 ≤ 500
  · simp only [decide_eq_true h1, if_true]
    exact Ev.bind (few_ev y hv 500 (by omega) (by omega)) (out _)
  · simp only [decide_eq_false h1, Bool.false_eq_true, if_false]
    exact out true
end Go.Proofs.Ytcmhffjcicolcaa.Pure
