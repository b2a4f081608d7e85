/- The fixed examples hold. -/
import Derived.Test.YtomccgpachmpbaaPBx7
-- needs: arboristlaw03_knows
namespace Go.Proofs.Ytomccgpachmpbaa.Pure
open Go.RowKit Go.Proofs.Ytomccgpachmpbaa.PB Go.Proofs.YtomccgpachmpbaaW.PrintWords Go.Proofs.YtomccgpachmpbaaW.PrintLast Go.Proofs.YtomccgpachmpbaaW.PrintMore
set_option linter.unusedVariables false
theorem knows_at : arboristlaw03_knows.f 60 = some true := by decide +kernel
theorem knows_ev : Ev (fun k => arboristlaw03_knows.f k) true := Ev.of (fun k => arboristlaw03_knows.mono k) knows_at
end Go.Proofs.Ytomccgpachmpbaa.Pure
