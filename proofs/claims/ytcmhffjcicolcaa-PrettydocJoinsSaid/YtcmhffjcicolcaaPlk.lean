/- The fixed examples hold. -/
import Derived.Test.YtcmhffjcicolcaaPAx10
-- needs: arboristlaw54_knows
namespace Go.Proofs.Ytcmhffjcicolcaa.Pure
open Go.RowKit Go.Proofs.Ytcmhffjcicolcaa.PA Go.Proofs.YtcmhffjcicolcaaW.PrintWords Go.Proofs.YtcmhffjcicolcaaW.PrintLast Go.Proofs.YtcmhffjcicolcaaW.PrintMore
theorem knows_at : arboristlaw54_knows.f 30 = some true := by decide +kernel
theorem knows_ev : Ev (fun k => arboristlaw54_knows.f k) true := Ev.of (fun k => arboristlaw54_knows.mono k) knows_at
end Go.Proofs.Ytcmhffjcicolcaa.Pure
