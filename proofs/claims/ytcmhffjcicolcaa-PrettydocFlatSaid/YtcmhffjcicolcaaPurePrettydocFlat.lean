/- Flat of the program agrees with the reference's for any document; no condition. -/
import Derived.Test.YtcmhffjcicolcaaPAx20
import Derived.Test.YtcmhffjcicolcaaPl4
import Derived.Test.YtcmhffjcicolcaaPlk
-- needs: arboristlaw54_PrettydocFlat
namespace Go.Proofs.Ytcmhffjcicolcaa.Pure
open Go.RowKit Go.Proofs.Ytcmhffjcicolcaa.PA Go.Proofs.YtcmhffjcicolcaaW.PrintWords Go.Proofs.YtcmhffjcicolcaaW.PrintLast
set_option linter.unusedVariables false
set_option linter.unusedSimpArgs false
theorem PrettydocFlat : arboristlaw54_PrettydocFlat.Pure := by
  intro x hw
  refine Ev.rounds (g := fun k => arboristlaw54_PrettydocFlat.f k x.f0 x.f1 x.f2 x.f3) (r := true) ?_
  unfold arboristlaw54_PrettydocFlat.f
  refine Ev.bind (few_ev x hw 500 (by omega) (by omega)) ?_
  by_cases h1 : wT x 500 ≤ 500
  · have hc : cT x ≤ 140737488355328 := by
      have h2 := light x 500 h1
      rw [cT_eq]
      omega
    simp only [decide_eq_true h1, if_true]
    have both : ∃ s b, Ev (fun k => prettydoc_Flat.f k x.f0 x.f1 x.f2 x.f3) (s, b) ∧ Ev (fun k => arboristref54_Flat.f k x.f0 x.f1 x.f2 x.f3) (s, b) := by
      by_cases hr : RT x = 0
      · have hok : aT x = 0 := by
          unfold RT at hr
          split at hr
          · cases hr
          · split at hr
            · cases hr
            · exact hr
        obtain ⟨o1, e1, t1⟩ := pflat_ev x hw hok [] (by simpa using hc)
        obtain ⟨o2, e2, t2⟩ := rflat_ev x hw hok hc
        by_cases hh : hT x = true
        · refine ⟨⟨#[]⟩, false, ?_, ?_⟩
          · unfold prettydoc_Flat.f
            refine Ev.bind (pRight_ev x hw) ?_
            simp only [if_pos hr]
            refine Ev.bind e1 ?_
            simp only [hh, Bool.not_true, Bool.false_eq_true, if_false]
            exact Ev.now _
          · unfold arboristref54_Flat.f
            refine Ev.bind (rRight_ev x hw) ?_
            simp only [if_pos hr]
            refine Ev.bind e2 ?_
            simp only [hh, Bool.not_true, Bool.false_eq_true, if_false]
            exact Ev.now _
        · have hh' := Bool.eq_false_iff.2 hh
          have t1' := t1 hh'
          have t2' := t2 hh'
          have ho : (⟨o1.toArray⟩ : ByteArray) = o2 := bytes_ext (by rw [t2', t1']; simp)
          refine ⟨o2, true, ?_, ?_⟩
          · unfold prettydoc_Flat.f
            refine Ev.bind (pRight_ev x hw) ?_
            simp only [if_pos hr]
            refine Ev.bind e1 ?_
            simp only [hh', Bool.not_false, if_true, ho]
            exact Ev.now _
          · unfold arboristref54_Flat.f
            refine Ev.bind (rRight_ev x hw) ?_
            simp only [if_pos hr]
            refine Ev.bind e2 ?_
            simp only [hh', Bool.not_false, if_true]
            exact Ev.now _
      · refine ⟨⟨#[]⟩, false, ?_, ?_⟩
        · unfold prettydoc_Flat.f
          refine Ev.bind (pRight_ev x hw) ?_
          simp only [if_neg hr]
          exact Ev.now _
        · unfold arboristref54_Flat.f
          refine Ev.bind (rRight_ev x hw) ?_
          simp only [if_neg hr]
          exact Ev.now _
    obtain ⟨s, b, e1, e2⟩ := both
    refine Ev.bind e1 (Ev.bind e2 ?_)
    simp only [if_true, beq_self_eq_true]
    exact Ev.bind knows_ev (Ev.now _)
  · simp only [decide_eq_false h1, Bool.false_eq_true, if_false]
    exact Ev.bind knows_ev (Ev.now _)
end Go.Proofs.Ytcmhffjcicolcaa.Pure
