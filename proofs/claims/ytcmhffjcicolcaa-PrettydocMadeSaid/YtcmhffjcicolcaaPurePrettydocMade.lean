/- Words, Cat, Nest and Group of the program build what the reference's build, for any texts, documents and number; no condition. -/
import Derived.Test.YtcmhffjcicolcaaPAx23
import Derived.Test.YtcmhffjcicolcaaPl5
import Derived.Test.YtcmhffjcicolcaaPlk
-- needs: arboristlaw54_PrettydocMade
namespace Go.Proofs.Ytcmhffjcicolcaa.Pure
open Go.RowKit Go.Proofs.Ytcmhffjcicolcaa.PA Go.Proofs.YtcmhffjcicolcaaW.PrintWords Go.Proofs.YtcmhffjcicolcaaW.PrintLast
set_option linter.unusedVariables false
set_option linter.unusedSimpArgs false
theorem PrettydocMade : arboristlaw54_PrettydocMade.Pure := by
  intro l0 l1 a2 hw0 hw1 hw2
  refine Ev.rounds (g := fun k => arboristlaw54_PrettydocMade.f k l0 l1 a2) (r := true) ?_
  have know : Ev (fun k => (arboristlaw54_knows.f k).bind fun t => some t) true := Ev.bind knows_ev (Ev.now _)
  have out : l0.length ≤ 100 → l1.length ≤ 20 → ∀ (d i : Nat), l1.length - i = d → i ≤ l1.length → Ev (fun k => arboristlaw54_PrettydocMade.l0 k l0 l1 a2 (i : Int)) true := by
    intro c0 c1 d
    induction d with
    | zero =>
      intro i hd hi
      have : i = l1.length := by omega
      subst this
      have wW : W25 ⟨8, ⟨#[]⟩, 0, wl l0 l0.length⟩ := .mk (show (Lit.int .i64 8).wf = true by decide) (show 0 ≤ 140737488351232 by decide) (show (Lit.int .i64 0).wf = true by decide) (by have := wl_len l0 l0.length; show (wl l0 l0.length).length * 56 ≤ _; omega) (wl_wf l0 hw0.2 _ (Nat.le_refl _))
      have wC : W25 ⟨8, ⟨#[]⟩, 0, l1⟩ := .mk (show (Lit.int .i64 8).wf = true by decide) (show 0 ≤ 140737488351232 by decide) (show (Lit.int .i64 0).wf = true by decide) hw1.1 hw1.2
      refine Ev.step (f := fun k => ((prettydoc_Words.f k l0).bind fun bt340 => ((arboristref54_Words.f k l0).bind fun bt346 => ((arboristref54_Same.f k bt340.1 bt340.2.1 bt340.2.2.1 bt340.2.2.2 bt346.1 bt346.2.1 bt346.2.2.1 bt346.2.2.2).bind fun t352 => (if t352 = true then ((prettydoc_Cat.f k l1).bind fun bt353 => ((arboristref54_Cat.f l1).bind fun bt359 => ((arboristref54_Same.f k bt353.1 bt353.2.1 bt353.2.2.1 bt353.2.2.2 bt359.1 bt359.2.1 bt359.2.2.1 bt359.2.2.2).bind fun t365 => (if t365 = true then ((arboristlaw54_knows.f k).bind fun t366 => (some t366)) else (none))))) else (none)))))) (fun k => ?_) ?_
      · simp only [arboristlaw54_PrettydocMade.l0]
        rw [if_neg (by omega)]
      · refine Ev.bind (pwords_ev l0 c0) (Ev.bind (rwords_ev l0 c0) (Ev.bind (rself_ev _ _ _ _ wW) ?_))
        simp only [if_true]
        refine Ev.bind (a := (8, (⟨#[]⟩ : ByteArray), (0 : Int), l1)) ?_ ?_
        · unfold prettydoc_Cat.f
          exact Ev.bind (clone_ev ⟨8, ⟨#[]⟩, 0, l1⟩ wC) (Ev.now _)
        · unfold arboristref54_Cat.f
          simp only [Option.bind_some]
          refine Ev.bind (rself_ev _ _ _ _ wC) ?_
          simp only [if_true]
          exact know
    | succ d ihd =>
      intro i hd hi
      have hlt : i < l1.length := by omega
      have hx : W25 l1[i] := hw1.2 _ (List.getElem_mem _)
      have hi1 := ihd (i + 1) (by omega) (by omega)
      have few := few_ev l1[i] hx 100 (by omega) (by omega)
      refine Ev.step (f := fun k => ((arboristref54_Few.f k (l1[i].f0) (l1[i].f1) (l1[i].f2) (l1[i].f3) 100).bind fun t306 => (if t306 = true then ((prettydoc_Nest.f k a2 (l1[i].f0) (l1[i].f1) (l1[i].f2) (l1[i].f3)).bind fun bt308 => ((arboristref54_Nest.f a2 (l1[i].f0) (l1[i].f1) (l1[i].f2) (l1[i].f3)).bind fun bt315 => ((arboristref54_Same.f k bt308.1 bt308.2.1 bt308.2.2.1 bt308.2.2.2 bt315.1 bt315.2.1 bt315.2.2.1 bt315.2.2.2).bind fun t321 => (if t321 = true then ((prettydoc_Group.f k (l1[i].f0) (l1[i].f1) (l1[i].f2) (l1[i].f3)).bind fun bt323 => ((arboristref54_Group.f (l1[i].f0) (l1[i].f1) (l1[i].f2) (l1[i].f3)).bind fun bt330 => ((arboristref54_Same.f k bt323.1 bt323.2.1 bt323.2.2.1 bt323.2.2.2 bt330.1 bt330.2.1 bt330.2.2.1 bt330.2.2.2).bind fun t336 => (arboristlaw54_PrettydocMade.j2 k l0 l1 a2 (i : Int) (!t336))))) else (arboristlaw54_PrettydocMade.j2 k l0 l1 a2 (i : Int) true))))) else (arboristlaw54_PrettydocMade.j2 k l0 l1 a2 (i : Int) true)))) (fun k => ?_) (Ev.bind few ?_)
      · simp only [arboristlaw54_PrettydocMade.l0]
        rw [if_pos (by omega), if_pos (by omega), rd_at l1 i hlt]
      · by_cases hf : wT l1[i] 100 ≤ 100
        · simp only [decide_eq_true hf, if_true]
          have wN : W25 ⟨6, ⟨#[]⟩, a2, [⟨l1[i].f0, l1[i].f1, l1[i].f2, l1[i].f3⟩]⟩ := .mk (show (Lit.int .i64 6).wf = true by decide) (show 0 ≤ 140737488351232 by decide) hw2 (show 1 * 56 ≤ _ by omega) (fun z hz => by rw [List.mem_singleton.1 hz, eta25]; exact hx)
          have wG : W25 ⟨7, ⟨#[]⟩, 0, [⟨l1[i].f0, l1[i].f1, l1[i].f2, l1[i].f3⟩]⟩ := .mk (show (Lit.int .i64 7).wf = true by decide) (show 0 ≤ 140737488351232 by decide) (show (Lit.int .i64 0).wf = true by decide) (show 1 * 56 ≤ _ by omega) (fun z hz => by rw [List.mem_singleton.1 hz, eta25]; exact hx)
          refine Ev.bind (a := (6, (⟨#[]⟩ : ByteArray), a2, [⟨l1[i].f0, l1[i].f1, l1[i].f2, l1[i].f3⟩])) ?_ ?_
          · unfold prettydoc_Nest.f
            exact Ev.bind (clone_ev l1[i] hx) (Ev.now _)
          unfold arboristref54_Nest.f
          simp only [Option.bind_some]
          refine Ev.bind (rself_ev _ _ _ _ wN) ?_
          simp only [if_true]
          refine Ev.bind (a := (7, (⟨#[]⟩ : ByteArray), (0 : Int), [⟨l1[i].f0, l1[i].f1, l1[i].f2, l1[i].f3⟩])) ?_ ?_
          · unfold prettydoc_Group.f
            exact Ev.bind (clone_ev l1[i] hx) (Ev.now _)
          unfold arboristref54_Group.f
          simp only [Option.bind_some]
          refine Ev.bind (rself_ev _ _ _ _ wG) ?_
          refine Ev.step (f := fun k => arboristlaw54_PrettydocMade.l0 k l0 l1 a2 ((i + 1 : Nat) : Int)) (fun k => ?_) hi1
          simp only [arboristlaw54_PrettydocMade.j2, Bool.not_true, Bool.false_eq_true, if_false]
          rw [show wrap64 ((i : Int) + 1) = ((i + 1 : Nat) : Int) by unfold wrap64; omega]
        · simp only [decide_eq_false hf, Bool.false_eq_true, if_false]
          refine Ev.step (f := fun k => (arboristref54_Few.f k l1[i].f0 l1[i].f1 l1[i].f2 l1[i].f3 100).bind fun t338 => (if (t338 == false) = true then ((arboristlaw54_knows.f k).bind fun t339 => (some t339)) else (none))) (fun k => ?_) (Ev.bind few ?_)
          · simp only [arboristlaw54_PrettydocMade.j2, if_true]
            rw [if_pos (by omega), if_pos (by omega), rd_at l1 i hlt]
          · simp only [decide_eq_false hf, beq_self_eq_true, if_true]
            exact know
  have j0 : ∀ c : Bool, (c = false → l0.length ≤ 100 ∧ l1.length ≤ 20) → Ev (fun k => arboristlaw54_PrettydocMade.j0 k l0 l1 a2 c) true := by
    intro c hc
    cases c with
    | true =>
      refine Ev.step (f := fun k => (arboristlaw54_knows.f k).bind fun t => some t) (fun k => ?_) know
      simp only [arboristlaw54_PrettydocMade.j0, if_true]
    | false =>
      refine Ev.step (f := fun k => arboristlaw54_PrettydocMade.l0 k l0 l1 a2 0) (fun k => ?_) (out (hc rfl).1 (hc rfl).2 l1.length 0 (by omega) (by omega))
      simp only [arboristlaw54_PrettydocMade.j0, Bool.false_eq_true, if_false]
  unfold arboristlaw54_PrettydocMade.f
  by_cases h0 : (l0.length : Int) > 100
  · simp only [if_pos h0]
    exact j0 true (fun h => by cases h)
  · simp only [if_neg h0]
    exact j0 _ (fun h => by have := of_decide_eq_false h; omega)
end Go.Proofs.Ytcmhffjcicolcaa.Pure
