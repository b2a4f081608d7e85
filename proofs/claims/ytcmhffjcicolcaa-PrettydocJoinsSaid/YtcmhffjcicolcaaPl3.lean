/- Plain laws of documents: equality. -/
import Derived.Test.YtcmhffjcicolcaaPAx6
import Derived.Test.YtcmhffjcicolcaaPAx17
import Derived.Test.YtcmhffjcicolcaaPl1
-- needs: prettydoc_Same arboristref54_Same
namespace Go.Proofs.Ytcmhffjcicolcaa.Pure
open Go.RowKit Go.Proofs.Ytcmhffjcicolcaa.PA Go.Proofs.YtcmhffjcicolcaaW.PrintWords Go.Proofs.YtcmhffjcicolcaaW.PrintLast Go.Proofs.YtcmhffjcicolcaaW.PrintMore
set_option linter.unusedVariables false
set_option linter.unusedSimpArgs false
mutual
def sT : S25 → S25 → Bool
  | ⟨a, s, b, l⟩, y => decide (a = y.f0) && (decide (s.toList = y.f1.toList) && (decide (b = y.f2) && (decide (l.length = y.f3.length) && sL l y.f3)))
def sL : List S25 → List S25 → Bool
  | [], _ => true
  | _ :: _, [] => true
  | x :: r, y :: q => sT x y && sL r q
end
theorem sL_refl (l : List S25) (h : ∀ y ∈ l, sT y y = true) : sL l l = true := by
  induction l with
  | nil => simp [sL]
  | cons y r ih => simp only [sL]; rw [h y (by simp), ih (fun z hz => h z (by simp [hz]))]; rfl
theorem sT_refl : ∀ x : S25, sT x x = true := by
  intro x
  induction x using tree_ind with
  | h x ih =>
    obtain ⟨a, s, b, l⟩ := x
    simp only [sT]
    rw [sL_refl l ih]
    simp
theorem psame_ev : ∀ (x y : S25), W25 x → W25 y → Ev (fun k => prettydoc_Same.f k x.f0 x.f1 x.f2 x.f3 y.f0 y.f1 y.f2 y.f3) (sT x y) := by
  intro x
  induction x using tree_ind with
  | h x ih =>
    intro y hw hv
    have h := W25.out hw
    have g := W25.out hv
    obtain ⟨a, s, b, l⟩ := x
    obtain ⟨a', s', b', q⟩ := y
    simp only at h g ih ⊢
    simp only [sT]
    have no : ∀ (a : Int) (s : ByteArray) (b : Int) (l : List S25), Ev (fun k => prettydoc_Same.j0 k true a s b l a' s' b' q) false := fun a s b l =>
      Ev.step (f := fun _ => some false) (fun k => by simp only [prettydoc_Same.j0, if_true]) (Ev.now _)
    have loop : l.length = q.length → ∀ (d i : Nat), l.length - i = d → i ≤ l.length → Ev (fun k => prettydoc_Same.l0 k l (l.length : Int) (i : Int) a' s' b' q) (sL (l.drop i) (q.drop i)) := by
      intro hlq d
      induction d with
      | zero =>
        intro i hd hi
        have : i = l.length := by omega
        subst this
        rw [List.drop_length]
        simp only [sL]
        refine Ev.step (f := fun _ => some true) (fun k => ?_) (Ev.now _)
        simp only [prettydoc_Same.l0]
        rw [if_neg (by omega)]
      | succ d ihd =>
        intro i hd hi
        have hlt : i < l.length := by omega
        have hlt' : i < q.length := by omega
        rw [List.drop_eq_getElem_cons hlt, List.drop_eq_getElem_cons hlt']
        simp only [sL]
        have h1 := ih l[i] (List.getElem_mem _) q[i] (h.2.2.2.2 _ (List.getElem_mem _)) (g.2.2.2.2 _ (List.getElem_mem _))
        have h4 := ihd (i + 1) (by omega) (by omega)
        refine Ev.step (f := fun k => (prettydoc_Same.f k l[i].f0 l[i].f1 l[i].f2 l[i].f3 q[i].f0 q[i].f1 q[i].f2 q[i].f3).bind fun t => if t = true then prettydoc_Same.l0 k l (l.length : Int) (wrap64 ((i : Int) + 1)) a' s' b' q else some false) (fun k => ?_) (Ev.bind h1 ?_)
        · simp only [prettydoc_Same.l0]
          rw [if_pos (by omega), if_pos (by omega), if_pos (by omega), if_pos (by omega), rd_at l i hlt, rd_at q i hlt']
        · rw [wrap_succ i l.length hlt h.2.2.2.1]
          by_cases h0 : sT l[i] q[i] = true
          · simp only [h0, if_true, Bool.true_and]; exact h4
          · simp only [Bool.eq_false_iff.2 h0, Bool.false_and]; exact Ev.now _
    by_cases c1 : a = a'
    · by_cases c2 : s.toList = s'.toList
      · by_cases c3 : b = b'
        · by_cases c4 : l.length = q.length
          · have h6 := loop c4 l.length 0 (by omega) (by omega)
            rw [List.drop_zero, List.drop_zero] at h6
            simp only [decide_eq_true c1, decide_eq_true c2, decide_eq_true c3, decide_eq_true c4, Bool.true_and]
            refine Ev.step (f := fun k => prettydoc_Same.j0 k false a s b l a' s' b' q) (fun k => ?_) (Ev.step (f := fun k => prettydoc_Same.l0 k l (l.length : Int) 0 a' s' b' q) (fun k => ?_) h6)
            · simp only [prettydoc_Same.f]; rw [if_pos c1, if_pos c2, if_pos c3, show ((l.length : Int) != (q.length : Int)) = false by rw [bne_eq_false_iff_eq]; omega]
            · simp only [prettydoc_Same.j0]; rfl
          · simp only [decide_eq_false c4, Bool.false_and, Bool.and_false]
            refine Ev.step (f := fun k => prettydoc_Same.j0 k true a s b l a' s' b' q) (fun k => ?_) (no a s b l)
            simp only [prettydoc_Same.f]; rw [if_pos c1, if_pos c2, if_pos c3, show ((l.length : Int) != (q.length : Int)) = true by rw [bne_iff_ne]; omega]
        · simp only [decide_eq_false c3, Bool.false_and, Bool.and_false]
          exact Ev.step (f := fun k => prettydoc_Same.j0 k true a s b l a' s' b' q) (fun k => by simp only [prettydoc_Same.f]; rw [if_pos c1, if_pos c2, if_neg c3]) (no a s b l)
      · simp only [decide_eq_false c2, Bool.false_and, Bool.and_false]
        exact Ev.step (f := fun k => prettydoc_Same.j0 k true a s b l a' s' b' q) (fun k => by simp only [prettydoc_Same.f]; rw [if_pos c1, if_neg c2]) (no a s b l)
    · simp only [decide_eq_false c1, Bool.false_and, Bool.and_false]
      exact Ev.step (f := fun k => prettydoc_Same.j0 k true a s b l a' s' b' q) (fun k => by simp only [prettydoc_Same.f]; rw [if_neg c1]) (no a s b l)
theorem rsame_ev : ∀ (x y : S25), W25 x → W25 y → Ev (fun k => arboristref54_Same.f k x.f0 x.f1 x.f2 x.f3 y.f0 y.f1 y.f2 y.f3) (sT x y) := by
  intro x
  induction x using tree_ind with
  | h x ih =>
    intro y hw hv
    have h := W25.out hw
    have g := W25.out hv
    obtain ⟨a, s, b, l⟩ := x
    obtain ⟨a', s', b', q⟩ := y
    simp only at h g ih ⊢
    simp only [sT]
    have no : ∀ (a : Int) (s : ByteArray) (b : Int) (l : List S25), Ev (fun k => arboristref54_Same.j0 k true a s b l a' s' b' q) false := fun a s b l =>
      Ev.step (f := fun _ => some false) (fun k => by simp only [arboristref54_Same.j0, if_true]) (Ev.now _)
    have loop : l.length = q.length → ∀ (d i : Nat), l.length - i = d → i ≤ l.length → Ev (fun k => arboristref54_Same.l0 k (i : Int) a s b l a' s' b' q) (sL (l.drop i) (q.drop i)) := by
      intro hlq d
      induction d with
      | zero =>
        intro i hd hi
        have : i = l.length := by omega
        subst this
        rw [List.drop_length]
        simp only [sL]
        refine Ev.step (f := fun _ => some true) (fun k => ?_) (Ev.now _)
        simp only [arboristref54_Same.l0]
        rw [if_neg (by omega)]
      | succ d ihd =>
        intro i hd hi
        have hlt : i < l.length := by omega
        have hlt' : i < q.length := by omega
        rw [List.drop_eq_getElem_cons hlt, List.drop_eq_getElem_cons hlt']
        simp only [sL]
        have h1 := ih l[i] (List.getElem_mem _) q[i] (h.2.2.2.2 _ (List.getElem_mem _)) (g.2.2.2.2 _ (List.getElem_mem _))
        have h4 := ihd (i + 1) (by omega) (by omega)
        refine Ev.step (f := fun k => (arboristref54_Same.f k l[i].f0 l[i].f1 l[i].f2 l[i].f3 q[i].f0 q[i].f1 q[i].f2 q[i].f3).bind fun t => if t = true then arboristref54_Same.l0 k (wrap64 ((i : Int) + 1)) a s b l a' s' b' q else some false) (fun k => ?_) (Ev.bind h1 ?_)
        · simp only [arboristref54_Same.l0]
          rw [if_pos (by omega), if_pos (by omega), if_pos (by omega), rd_at l i hlt, rd_at q i hlt']
        · rw [wrap_succ i l.length hlt h.2.2.2.1]
          by_cases h0 : sT l[i] q[i] = true
          · simp only [h0, if_true, Bool.true_and]; exact h4
          · simp only [Bool.eq_false_iff.2 h0, Bool.false_and]; exact Ev.now _
    by_cases c1 : a = a'
    · by_cases c2 : s.toList = s'.toList
      · by_cases c3 : b = b'
        · by_cases c4 : l.length = q.length
          · have h6 := loop c4 l.length 0 (by omega) (by omega)
            rw [List.drop_zero, List.drop_zero] at h6
            simp only [decide_eq_true c1, decide_eq_true c2, decide_eq_true c3, decide_eq_true c4, Bool.true_and]
            refine Ev.step (f := fun k => arboristref54_Same.j0 k false a s b l a' s' b' q) (fun k => ?_) (Ev.step (f := fun k => arboristref54_Same.l0 k 0 a s b l a' s' b' q) (fun k => ?_) h6)
            · simp only [arboristref54_Same.f]; rw [if_pos c1, if_pos c2, if_pos c3, show ((l.length : Int) != (q.length : Int)) = false by rw [bne_eq_false_iff_eq]; omega]
            · simp only [arboristref54_Same.j0]; rfl
          · simp only [decide_eq_false c4, Bool.false_and, Bool.and_false]
            refine Ev.step (f := fun k => arboristref54_Same.j0 k true a s b l a' s' b' q) (fun k => ?_) (no a s b l)
            simp only [arboristref54_Same.f]; rw [if_pos c1, if_pos c2, if_pos c3, show ((l.length : Int) != (q.length : Int)) = true by rw [bne_iff_ne]; omega]
        · simp only [decide_eq_false c3, Bool.false_and, Bool.and_false]
          exact Ev.step (f := fun k => arboristref54_Same.j0 k true a s b l a' s' b' q) (fun k => by simp only [arboristref54_Same.f]; rw [if_pos c1, if_pos c2, if_neg c3]) (no a s b l)
      · simp only [decide_eq_false c2, Bool.false_and, Bool.and_false]
        exact Ev.step (f := fun k => arboristref54_Same.j0 k true a s b l a' s' b' q) (fun k => by simp only [arboristref54_Same.f]; rw [if_pos c1, if_neg c2]) (no a s b l)
    · simp only [decide_eq_false c1, Bool.false_and, Bool.and_false]
      exact Ev.step (f := fun k => arboristref54_Same.j0 k true a s b l a' s' b' q) (fun k => by simp only [arboristref54_Same.f]; rw [if_neg c1]) (no a s b l)
end Go.Proofs.Ytcmhffjcicolcaa.Pure
