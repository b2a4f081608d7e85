/- Plain laws of documents: a copy is what was copied; texts separated by lines. -/
import Derived.Test.YtcmhffjcicolcaaPAx8
import Derived.Test.YtcmhffjcicolcaaPAx9
import Derived.Test.YtcmhffjcicolcaaPAx20
import Derived.Test.YtcmhffjcicolcaaPAx21
import Derived.Test.YtcmhffjcicolcaaPAx22
import Derived.Test.YtcmhffjcicolcaaPl3
-- needs: prettydoc_clone prettydoc_Nest prettydoc_Group prettydoc_Words arboristref54_Words arboristref54_Nest arboristref54_Group prettydoc_Cat arboristref54_Cat
namespace Go.Proofs.Ytcmhffjcicolcaa.Pure
open Go.RowKit Go.Proofs.Ytcmhffjcicolcaa.PA Go.Proofs.YtcmhffjcicolcaaW.PrintWords Go.Proofs.YtcmhffjcicolcaaW.PrintLast Go.Proofs.YtcmhffjcicolcaaW.PrintMore
set_option linter.unusedVariables false
set_option linter.unusedSimpArgs false
theorem clone_ev : ∀ (x : S25), W25 x → Ev (fun k => prettydoc_clone.f k x.f0 x.f1 x.f2 x.f3) (x.f0, x.f1, x.f2, x.f3) := by
  intro x
  induction x using tree_ind with
  | h x ih =>
    intro hw
    have h := W25.out hw
    obtain ⟨a, s, b, l⟩ := x
    simp only at h ih ⊢
    have loop : ∀ (d i : Nat), l.length - i = d → i ≤ l.length → Ev (fun k => prettydoc_clone.l0 k l (l.length : Int) (i : Int) a s b (l.take i)) (a, s, b, l) := by
      intro d
      induction d with
      | zero =>
        intro i hd hi
        have : i = l.length := by omega
        subst this
        rw [List.take_length]
        refine Ev.step (f := fun _ => some (a, s, b, l)) (fun k => ?_) (Ev.now _)
        simp only [prettydoc_clone.l0]
        rw [if_neg (by omega)]
      | succ d ihd =>
        intro i hd hi
        have hlt : i < l.length := by omega
        have h1 := ih l[i] (List.getElem_mem _) (h.2.2.2.2 _ (List.getElem_mem _))
        have h4 := ihd (i + 1) (by omega) (by omega)
        refine Ev.step (f := fun k => (prettydoc_clone.f k l[i].f0 l[i].f1 l[i].f2 l[i].f3).bind fun bt135 => (if (l.take i).length < 2513169434916 then (prettydoc_clone.l0 k l (l.length : Int) (wrap64 ((i : Int) + 1)) a s b (l.take i ++ [(⟨bt135.1, bt135.2.1, bt135.2.2.1, bt135.2.2.2⟩ : S25)])) else (none))) (fun k => ?_) (Ev.bind h1 ?_)
        · simp only [prettydoc_clone.l0]
          rw [if_pos (by omega), if_pos (by omega), if_pos (by omega), rd_at l i hlt]
        · rw [wrap_succ i l.length hlt h.2.2.2.1]
          simp only [if_pos (show (l.take i).length < 2513169434916 by rw [List.length_take]; omega)]
          rw [List.take_succ_eq_append_getElem hlt] at h4
          simp only [eta25]
          exact h4
    have h6 := loop l.length 0 (by omega) (by omega)
    rw [List.take_zero] at h6
    refine Ev.step (f := fun k => prettydoc_clone.l0 k l (l.length : Int) 0 a s b []) (fun k => ?_) h6
    simp only [prettydoc_clone.f]
def wl (l : List ByteArray) : Nat → List S25
  | 0 => []
  | i + 1 => (if i > 0 then wl l i ++ [⟨3, ⟨#[]⟩, 0, []⟩] else wl l i) ++ [⟨2, rdOf ByteArray.empty l (i : Int), 0, []⟩]
theorem wl_len (l : List ByteArray) : ∀ i, (wl l i).length ≤ 2 * i := by
  intro i
  induction i with
  | zero => simp [wl]
  | succ i ih =>
    simp only [wl, List.length_append, List.length_singleton]
    split <;> (try simp only [List.length_append, List.length_singleton]) <;> omega
theorem wl_wf (l : List ByteArray) (h : ∀ y ∈ l, y.size ≤ 140737488351232) : ∀ i, i ≤ l.length → ∀ y ∈ wl l i, W25 y := by
  intro i
  induction i with
  | zero => intro _ y hy; exact absurd hy (by simp [wl])
  | succ i ih =>
    intro hi y hy
    simp only [wl] at hy
    rcases List.mem_append.1 hy with hy | hy
    · split at hy
      · rcases List.mem_append.1 hy with hy | hy
        · exact ih (by omega) y hy
        · rw [List.mem_singleton.1 hy]
          exact .mk (by decide) (by decide) (by decide) (by decide) (fun z hz => absurd hz (by simp))
      · exact ih (by omega) y hy
    · rw [List.mem_singleton.1 hy]
      refine .mk (show (Lit.int .i64 2).wf = true by decide) ?_ (show (Lit.int .i64 0).wf = true by decide) (show 0 * 56 ≤ 140737488351232 by decide) (fun z hz => absurd hz (by simp))
      show (rdOf ByteArray.empty l (i : Int)).size ≤ _
      unfold rdOf
      rw [Int.toNat_natCast, List.getD_eq_getElem?_getD, List.getElem?_eq_getElem (by omega)]
      exact h _ (List.getElem_mem _)
theorem pwords_ev (l : List ByteArray) (hl : l.length ≤ 100) : Ev (fun k => prettydoc_Words.f k l) (8, (⟨#[]⟩ : ByteArray), 0, wl l l.length) := by
  have loop : ∀ (d i : Nat), l.length - i = d → i ≤ l.length → Ev (fun k => prettydoc_Words.l0 k l (l.length : Int) (i : Int) 8 (⟨#[]⟩ : ByteArray) 0 (wl l i)) (8, (⟨#[]⟩ : ByteArray), 0, wl l l.length) := by
    intro d
    induction d with
    | zero =>
      intro i hd hi
      have : i = l.length := by omega
      subst this
      refine Ev.step (f := fun _ => some _) (fun k => ?_) (Ev.now _)
      simp only [prettydoc_Words.l0]
      rw [if_neg (by omega)]
    | succ d ihd =>
      intro i hd hi
      have hlt : i < l.length := by omega
      have h4 := ihd (i + 1) (by omega) (by omega)
      have h5 := wl_len l i
      have hw : wrap64 ((i : Int) + 1) = ((i + 1 : Nat) : Int) := by unfold wrap64; omega
      refine Ev.step (f := fun k => prettydoc_Words.l0 k l (l.length : Int) ((i + 1 : Nat) : Int) 8 (⟨#[]⟩ : ByteArray) 0 (wl l (i + 1))) (fun k => ?_) h4
      simp only [prettydoc_Words.l0, wl]
      rw [if_pos (by omega), if_pos (by omega), if_pos (by omega), hw]
      by_cases h0 : i > 0
      · rw [if_pos (by omega), if_pos (by omega), if_pos h0]
        simp only [Option.bind_some]
        rw [if_pos (by rw [List.length_append, List.length_singleton]; omega)]
      · rw [if_neg (by omega), if_pos (by omega), if_neg h0]
  exact loop l.length 0 (by omega) (by omega)
theorem rwords_ev (l : List ByteArray) (hl : l.length ≤ 100) : Ev (fun k => arboristref54_Words.f k l) (8, (⟨#[]⟩ : ByteArray), 0, wl l l.length) := by
  have loop : ∀ (d i : Nat), l.length - i = d → i ≤ l.length → Ev (fun k => arboristref54_Words.l0 k l (i : Int) 8 (⟨#[]⟩ : ByteArray) 0 (wl l i)) (8, (⟨#[]⟩ : ByteArray), 0, wl l l.length) := by
    intro d
    induction d with
    | zero =>
      intro i hd hi
      have : i = l.length := by omega
      subst this
      refine Ev.step (f := fun _ => some _) (fun k => ?_) (Ev.now _)
      simp only [arboristref54_Words.l0]
      rw [if_neg (by omega)]
    | succ d ihd =>
      intro i hd hi
      have hlt : i < l.length := by omega
      have h4 := ihd (i + 1) (by omega) (by omega)
      have h5 := wl_len l i
      have hw : wrap64 ((i : Int) + 1) = ((i + 1 : Nat) : Int) := by unfold wrap64; omega
      refine Ev.step (f := fun k => arboristref54_Words.l0 k l ((i + 1 : Nat) : Int) 8 (⟨#[]⟩ : ByteArray) 0 (wl l (i + 1))) (fun k => ?_) h4
      simp only [arboristref54_Words.l0, wl]
      rw [if_pos (by omega), hw]
      by_cases h0 : i > 0
      · rw [if_pos (by omega), if_pos (by omega), if_pos h0]
        simp only [Option.bind_some]
        rw [if_pos (by omega), if_pos (by rw [List.length_append, List.length_singleton]; omega)]
      · rw [if_neg (by omega), if_pos (by omega), if_pos (by omega), if_neg h0]
  exact loop l.length 0 (by omega) (by omega)
/-- A tree is Same to itself. -/
theorem rself_ev (a : Int) (s : ByteArray) (b : Int) (l : List S25) (h : W25 ⟨a, s, b, l⟩) : Ev (fun k => arboristref54_Same.f k a s b l a s b l) true := by
  have := rsame_ev ⟨a, s, b, l⟩ ⟨a, s, b, l⟩ h h
  rw [sT_refl] at this
  exact this
end Go.Proofs.Ytcmhffjcicolcaa.Pure
