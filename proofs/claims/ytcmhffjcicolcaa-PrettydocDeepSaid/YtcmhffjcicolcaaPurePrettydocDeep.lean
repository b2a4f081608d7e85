/- Right and Groups of the program agree with the reference's for any document wrapped into up to 255 groups; no condition. -/
import Derived.Test.YtcmhffjcicolcaaPAx16
import Derived.Test.YtcmhffjcicolcaaPl2
import Derived.Test.YtcmhffjcicolcaaPlk
-- needs: arboristlaw54_PrettydocDeep
namespace Go.Proofs.Ytcmhffjcicolcaa.Pure
open Go.RowKit Go.Proofs.Ytcmhffjcicolcaa.PA Go.Proofs.YtcmhffjcicolcaaW.PrintWords Go.Proofs.YtcmhffjcicolcaaW.PrintLast
set_option linter.unusedVariables false
set_option linter.unusedSimpArgs false
theorem PrettydocDeep : arboristlaw54_PrettydocDeep.Pure := by
  intro x a hw ha
  have hb : 0 ≤ a ∧ a ≤ 255 := by
    simp [Lit.wf, IntKind.min, IntKind.max, IntKind.signed, IntKind.bits] at ha
    omega
  refine Ev.rounds (g := fun k => arboristlaw54_PrettydocDeep.f k x.f0 x.f1 x.f2 x.f3 a) (r := true) ?_
  have hwr : wrap64 a = a := by unfold wrap64; omega
  have loop : ∀ (d : Nat) (i : Int), a - i = d → 0 ≤ i → ∀ x : S25, W25 x → (gT x : Int) + d ≤ 1000000 → Ev (fun k => arboristlaw54_PrettydocDeep.l0 k a i x.f0 x.f1 x.f2 x.f3) true := by
    intro d
    induction d with
    | zero =>
      intro i hd hi x hx hg
      refine Ev.step (f := fun k => ((prettydoc_Right.f k x.f0 x.f1 x.f2 x.f3).bind fun t246 => ((arboristref54_Right.f k x.f0 x.f1 x.f2 x.f3).bind fun t247 => (if t246 = t247 then ((prettydoc_Groups.f k x.f0 x.f1 x.f2 x.f3).bind fun t248 => ((arboristref54_Groups.f k x.f0 x.f1 x.f2 x.f3).bind fun t249 => (if t248 = t249 then ((arboristlaw54_knows.f k).bind fun t250 => (some t250)) else (none)))) else (none))))) (fun k => ?_) ?_
      · simp only [arboristlaw54_PrettydocDeep.l0]
        rw [hwr, if_neg (by omega)]
      · refine Ev.bind (pRight_ev x hx) (Ev.bind (rRight_ev x hx) ?_)
        simp only [if_true]
        refine Ev.bind (pgroups_ev x hx (by omega)) (Ev.bind (rgroups_ev x hx (by omega)) ?_)
        simp only [if_true]
        exact Ev.bind knows_ev (Ev.now _)
    | succ d ih =>
      intro i hd hi x hx hg
      have wx : W25 ⟨7, ⟨#[]⟩, 0, [x]⟩ := .mk (show (Lit.int .i64 7).wf = true by decide) (show 0 ≤ 140737488351232 by decide) (show (Lit.int .i64 0).wf = true by decide) (show 1 * 56 ≤ 140737488351232 by omega) (fun z hz => by rw [List.mem_singleton.1 hz]; exact hx)
      have hg2 : (gT ⟨7, ⟨#[]⟩, 0, [x]⟩ : Int) = gT x + 1 := by simp only [gT, gL, if_true]; omega
      have h1 := ih (i + 1) (by omega) (by omega) ⟨7, ⟨#[]⟩, 0, [x]⟩ wx (by omega)
      refine Ev.step (f := fun k => arboristlaw54_PrettydocDeep.l0 k a (i + 1) 7 (⟨#[]⟩ : ByteArray) 0 [x]) (fun k => ?_) h1
      simp only [arboristlaw54_PrettydocDeep.l0]
      rw [hwr, if_pos (by omega), show wrap64 (i + 1) = i + 1 by unfold wrap64; omega, eta25]
  unfold arboristlaw54_PrettydocDeep.f
  refine Ev.bind (few_ev x hw 300 (by omega) (by omega)) ?_
  by_cases h1 : wT x 300 ≤ 300
  · simp only [decide_eq_true h1, if_true]
    have h2 := light x 300 h1
    have h3 := gT_le x
    exact loop a.toNat 0 (by omega) (by omega) x hw (by omega)
  · simp only [decide_eq_false h1, Bool.false_eq_true, if_false]
    exact Ev.bind knows_ev (Ev.now _)
end Go.Proofs.Ytcmhffjcicolcaa.Pure
