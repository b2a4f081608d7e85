/- Of answers the canonical union of any ranges, as the reference does. -/
import Derived.Test.YtomccgpachmpbaaPAx11
import Derived.Test.YtomccgpachmpbaaPl3
import Derived.Test.YtomccgpachmpbaaPlk
-- needs: arboristlaw03_CharsetMade
namespace Go.Proofs.Ytomccgpachmpbaa.Pure
open Go.RowKit Go.Proofs.Ytomccgpachmpbaa.PA Go.Proofs.YtomccgpachmpbaaW.PrintWords Go.Proofs.YtomccgpachmpbaaW.PrintLast Go.Proofs.YtomccgpachmpbaaW.PrintMore
set_option linter.unusedVariables false
theorem CharsetMade : arboristlaw03_CharsetMade.Pure := by
  intro l hl
  refine Ev.rounds ?_
  unfold arboristlaw03_CharsetMade.f
  by_cases h : (l.length : Int) > 60
  · exact Ev.congr (fun k => by rw [if_pos h]) (Ev.bind knows_ev (Ev.now true))
  · obtain ⟨c, m⟩ := ofR_spec l
    obtain ⟨s, s1, s2, s3⟩ := rof_ev l (by omega)
    have e : ofR l = s := can_ext c s2 (fun x => by rw [m, s3])
    have hn := can_len c
    refine Ev.congr (fun k => by rw [if_neg h]) (Ev.bind (of_ev l (by omega)) (Ev.bind s1 (Ev.bind (same_ev _ _ e (by omega)) ?_)))
    refine Ev.congr (fun k => by rw [if_pos rfl]) (Ev.bind (right_ev (ofR l) (by omega)) ?_)
    exact Ev.congr (fun k => by rw [if_pos ((chk_iff _).2 c)]) (Ev.bind knows_ev (Ev.now true))
end Go.Proofs.Ytomccgpachmpbaa.Pure
