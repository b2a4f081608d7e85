/- Parts and Union answer as the reference does, of any list of sets. -/
import Derived.Test.YtomccgpachmpbaaPBx7
import Derived.Test.YtomccgpachmpbaaPBx10
import Derived.Test.YtomccgpachmpbaaQl5
import Derived.Test.YtomccgpachmpbaaQl8
import Derived.Test.YtomccgpachmpbaaQlk
-- needs: arboristlaw03_CharsetParts arboristlaw03_few arboristref03_SameAll
namespace Go.Proofs.Ytomccgpachmpbaa.Pure
open Go.RowKit Go.Proofs.Ytomccgpachmpbaa.PB Go.Proofs.YtomccgpachmpbaaW.PrintWords Go.Proofs.YtomccgpachmpbaaW.PrintLast Go.Proofs.YtomccgpachmpbaaW.PrintMore
set_option linter.unusedVariables false

theorem few_l0 (l : List (List S41)) (hl : l.length < 17592186044416) : ∀ (d i : Nat), i + d = l.length → ∃ b, Ev (fun k => arboristlaw03_few.l0 k l (i : Int)) b ∧ (b = true → l.length ≤ 12 ∧ ∀ j (hj : j < l.length), i ≤ j → l[j].length ≤ 12) := by
  intro d
  induction d with
  | zero =>
    intro i hi
    refine ⟨decide ((l.length : Int) ≤ 12), Ev.step (f := fun k => arboristlaw03_few.j1 k l (i : Int) false) (fun k => ?_) (Ev.step (f := fun _ => some (decide ((l.length : Int) ≤ 12))) (fun k => ?_) (Ev.now _)), fun h => ?_⟩
    · simp only [arboristlaw03_few.l0]; rw [if_neg (by omega)]
    · simp only [arboristlaw03_few.j1]; rw [if_neg (by simp)]
    · have := of_decide_eq_true h
      exact ⟨by omega, fun j hj h => by omega⟩
  | succ d ih =>
    intro i hi
    have hlt : i < l.length := by omega
    by_cases h20 : (i : Int) < 20
    · by_cases h12 : (l[i].length : Int) > 12
      · refine ⟨false, Ev.step (f := fun k => arboristlaw03_few.j1 k l (i : Int) true) (fun k => ?_) (Ev.step (f := fun _ => some false) (fun k => ?_) (Ev.now _)), fun h => by cases h⟩
        · simp only [arboristlaw03_few.l0]; rw [if_pos (by omega), decide_eq_true h20]
        · simp only [arboristlaw03_few.j1]; rw [if_pos trivial, if_pos (by omega), if_pos (by omega), rd_L2_at l i hlt, if_pos h12]
      · obtain ⟨b, h1, h2⟩ := ih (i + 1) (by omega)
        refine ⟨b, Ev.step (f := fun k => arboristlaw03_few.j1 k l (i : Int) true) (fun k => ?_) (Ev.step (fun k => ?_) h1), fun h => ⟨(h2 h).1, fun j hj hij => ?_⟩⟩
        · simp only [arboristlaw03_few.l0]; rw [if_pos (by omega), decide_eq_true h20]
        · simp only [arboristlaw03_few.j1]; rw [if_pos trivial, if_pos (by omega), if_pos (by omega), rd_L2_at l i hlt, if_neg h12, wrap_succ hlt (by omega)]
        · by_cases hij2 : j = i
          · subst hij2; omega
          · exact (h2 h).2 j hj (by omega)
    · refine ⟨decide ((l.length : Int) ≤ 12), Ev.step (f := fun k => arboristlaw03_few.j1 k l (i : Int) false) (fun k => ?_) (Ev.step (f := fun _ => some (decide ((l.length : Int) ≤ 12))) (fun k => ?_) (Ev.now _)), fun h => ?_⟩
      · simp only [arboristlaw03_few.l0]; rw [if_pos (by omega), decide_eq_false h20]
      · simp only [arboristlaw03_few.j1]; rw [if_neg (by simp)]
      · have := of_decide_eq_true h
        omega
theorem sameAll_l0 (R : List (List S41)) (hR : R.length < 17592186044416) (hc : ∀ s ∈ R, s.length < 17592186044416) : ∀ (d i : Nat), i + d = R.length → Ev (fun k => arboristref03_SameAll.l0 k R R (i : Int)) true := by
  intro d
  induction d with
  | zero =>
    intro i hi
    refine Ev.step (f := fun _ => some true) (fun k => ?_) (Ev.now _)
    simp only [arboristref03_SameAll.l0]
    rw [if_neg (by omega)]
  | succ d ih =>
    intro i hi
    have hlt : i < R.length := by omega
    refine Ev.step (fun k => ?_) (Ev.bind (same_ev R[i] R[i] rfl (hc R[i] (List.getElem_mem _))) (f := fun k t => if t = true then arboristref03_SameAll.l0 k R R ((i + 1 : Nat) : Int) else some false) (Ev.congr (fun k => if_pos rfl) (ih (i + 1) (by omega))))
    simp only [arboristref03_SameAll.l0]
    rw [if_pos (by omega), if_pos (by omega), if_pos (by omega), rd_L2_at R i hlt, wrap_succ hlt (by omega)]
theorem sameAll_ev (R : List (List S41)) (hR : R.length < 17592186044416) (hc : ∀ s ∈ R, s.length < 17592186044416) : Ev (fun k => arboristref03_SameAll.f k R R) true := by
  refine Ev.congr (fun k => ?_) (sameAll_l0 R hR hc R.length 0 (by omega))
  unfold arboristref03_SameAll.f
  rw [if_pos rfl]
  rfl
theorem flat_len : ∀ (l : List (List S41)), (∀ s ∈ l, s.length ≤ 12) → l.flatten.length ≤ 12 * l.length := by
  intro l
  induction l with
  | nil => intro _; simp
  | cons s t ih =>
    intro h
    have h1 := h s (by simp)
    have h2 := ih (fun z hz => h z (by simp [hz]))
    rw [List.flatten_cons, List.length_append, List.length_cons]
    omega
theorem CharsetParts : arboristlaw03_CharsetParts.Pure := by
  intro l hl
  suffices key : Ev (fun k => arboristlaw03_CharsetParts.f k l) true by
    obtain ⟨K, hK⟩ := key
    exact ⟨K, hK K (Nat.le_refl _)⟩
  unfold arboristlaw03_CharsetParts.f
  obtain ⟨b, b1, b2⟩ := few_l0 l (by omega) l.length 0 (by omega)
  refine Ev.bind (a := b) b1 ?_
  cases b with
  | false => exact Ev.congr (fun k => if_neg (by simp)) (Ev.bind knows_ev (Ev.now true))
  | true =>
    obtain ⟨c1, c2⟩ := b2 rfl
    have h12 : ∀ s ∈ l, s.length ≤ 12 := fun s hs => by
      obtain ⟨j, hj, rfl⟩ := List.mem_iff_getElem.1 hs
      exact c2 j hj (Nat.zero_le _)
    have hs : ∀ s ∈ l, s.length < 17592186044416 := fun s hs => by
      have := h12 s hs
      omega
    obtain ⟨R, r1, r2, r3, r4⟩ := parts_same l (by omega) hs
    have hfl := flat_len l h12
    obtain ⟨u, u1, u2, u3⟩ := union_ev l (by omega) (by omega)
    obtain ⟨u', v1, v2, v3⟩ := runion_ev l (by omega) hs
    obtain rfl : u = u' := can_ext u2 v2 (fun x => by rw [u3, v3])
    refine Ev.congr (fun k => if_pos rfl) (Ev.bind r1 (Ev.bind r2 (Ev.bind (sameAll_ev R (by omega) (fun s hs => by have := can_len (r4 s hs); omega)) ?_)))
    refine Ev.congr (fun k => if_pos rfl) (Ev.bind u1 (Ev.bind v1 (Ev.bind (same_ev u u rfl (by have := can_len u2; omega)) ?_)))
    exact Ev.congr (fun k => if_pos rfl) (Ev.bind knows_ev (Ev.now true))
end Go.Proofs.Ytomccgpachmpbaa.Pure
