/- What the program's set operations come to: canonical lists with the members that the operation asks for. -/
import Derived.Test.YtomccgpachmpbaaPBx9
import Derived.Test.YtomccgpachmpbaaPBx10
import Derived.Test.YtomccgpachmpbaaQl2
-- needs: charset_Union arboristref03_Union
namespace Go.Proofs.Ytomccgpachmpbaa.Pure
open Go.RowKit Go.Proofs.Ytomccgpachmpbaa.PB Go.Proofs.YtomccgpachmpbaaW.PrintWords Go.Proofs.YtomccgpachmpbaaW.PrintLast Go.Proofs.YtomccgpachmpbaaW.PrintMore
set_option linter.unusedVariables false

def memA (L : List (List S41)) (x : Int) : Prop := ∃ l ∈ L, mem l x
theorem memA_nil (x : Int) : ¬ memA [] x := by rintro ⟨l, hl, _⟩; exact absurd hl (by simp)
theorem memA_cons {l : List S41} {L : List (List S41)} {x : Int} : memA (l :: L) x ↔ mem l x ∨ memA L x := by
  constructor
  · rintro ⟨m, hm, h⟩
    rcases List.mem_cons.1 hm with rfl | hm
    · exact .inl h
    · exact .inr ⟨m, hm, h⟩
  · rintro (h | ⟨m, hm, h⟩)
    · exact ⟨l, by simp, h⟩
    · exact ⟨m, by simp [hm], h⟩
theorem runion_l0 (L : List (List S41)) (hL : L.length < 17592186044416) (hl : ∀ l ∈ L, l.length < 17592186044416) : ∀ (d i : Nat) (o : List S41), i + d = L.length → Can o →
    ∃ s, Ev (fun k => arboristref03_Union.l0 k L o (i : Int)) s ∧ Can s ∧ ∀ x, mem s x ↔ inU x ∧ (mem o x ∨ memA (L.drop i) x) := by
  intro d
  induction d with
  | zero =>
    intro i o hi ho
    refine ⟨o, Ev.step (f := fun _ => some o) (fun k => ?_) (Ev.now _), ho, fun x => ?_⟩
    · simp only [arboristref03_Union.l0]
      rw [if_neg (by omega)]
    · rw [List.drop_eq_nil_of_le (by omega)]
      exact ⟨fun h => ⟨can_mem ho h, .inl h⟩, fun h => h.2.resolve_right (memA_nil x)⟩
  | succ d ih =>
    intro i o hi ho
    have hlt : i < L.length := by omega
    obtain ⟨t, t1, t2, t3⟩ := both_ev o L[i] 1 (.inl rfl) (by have := can_len ho; omega) (hl _ (List.getElem_mem _))
    obtain ⟨s, h1, h2, h3⟩ := ih (i + 1) t (by omega) t2
    refine ⟨s, Ev.step (f := fun k => (arboristref03_both.f k o L[i] 1).bind fun t => arboristref03_Union.l0 k L t ((i + 1 : Nat) : Int)) (fun k => ?_) (Ev.bind t1 h1), h2, fun x => ?_⟩
    · simp only [arboristref03_Union.l0]
      rw [if_pos (by omega), if_pos (by omega), rd_L2_at L i hlt, wrap_succ hlt (by omega)]
    · rw [h3, t3, List.drop_eq_getElem_cons hlt, memA_cons]
      unfold opB
      rw [if_pos rfl, Bool.or_eq_true, inS_iff, inS_iff]
      constructor
      · rintro ⟨g1, ⟨_, g2 | g2⟩ | g2⟩
        · exact ⟨g1, .inl g2.2⟩
        · exact ⟨g1, .inr (.inl g2.2)⟩
        · exact ⟨g1, .inr (.inr g2)⟩
      · rintro ⟨g1, g2 | g2 | g2⟩
        · exact ⟨g1, .inl ⟨g1, .inl ⟨g1, g2⟩⟩⟩
        · exact ⟨g1, .inl ⟨g1, .inr ⟨g1, g2⟩⟩⟩
        · exact ⟨g1, .inr g2⟩
theorem runion_ev (L : List (List S41)) (hL : L.length < 17592186044416) (hl : ∀ l ∈ L, l.length < 17592186044416) : ∃ s, Ev (fun k => arboristref03_Union.f k L) s ∧ Can s ∧ ∀ x, mem s x ↔ inU x ∧ memA L x := by
  obtain ⟨s, h1, h2, h3⟩ := runion_l0 L hL hl L.length 0 [] (by omega) can_nil
  refine ⟨s, h1, h2, fun x => ?_⟩
  rw [h3, List.drop_zero]
  exact ⟨fun h => ⟨h.1, h.2.resolve_left (mem_nil x)⟩, fun h => ⟨h.1, .inr h.2⟩⟩

/-! ### Union -/
theorem mem_flatten {L : List (List S41)} {x : Int} : mem L.flatten x ↔ memA L x := by
  unfold mem memA mem
  constructor
  · rintro ⟨y, hy, h⟩
    obtain ⟨l, hl, hyl⟩ := List.mem_flatten.1 hy
    exact ⟨l, hl, y, hyl, h⟩
  · rintro ⟨l, hl, y, hyl, h⟩
    exact ⟨y, List.mem_flatten.2 ⟨l, hl, hyl⟩, h⟩
theorem concat_l1 (L : List (List S41)) (hL : L.length < 17592186044416) : ∀ (d i : Nat) (o : List S41), i + d = L.length → o.length + (L.drop i).flatten.length < 17592186044416 →
    Ev (fun k => api_Range_49.l1 k o L (L.length : Int) (i : Int)) (o ++ (L.drop i).flatten) := by
  intro d
  induction d with
  | zero =>
    intro i o hi ho
    rw [List.drop_eq_nil_of_le (by omega)]
    refine Ev.step (f := fun _ => some o) (fun k => ?_) (by rw [List.flatten_nil, List.append_nil]; exact Ev.now _)
    simp only [api_Range_49.l1]
    rw [if_neg (by omega)]
  | succ d ih =>
    intro i o hi ho
    have hlt : i < L.length := by omega
    rw [List.drop_eq_getElem_cons hlt, List.flatten_cons] at ho ⊢
    rw [List.length_append] at ho
    have h := ih (i + 1) (o ++ L[i]) (by omega) (by rw [List.length_append]; omega)
    rw [List.append_assoc] at h
    refine Ev.step (fun k => ?_) h
    simp only [api_Range_49.l1]
    rw [if_pos (by omega), if_pos (by omega), if_pos (by omega), rd_L2_at L i hlt, if_pos (by omega), wrap_succ hlt (by omega)]
theorem concat_l0 (L : List (List S41)) (hL : L.length < 17592186044416) (hf : L.flatten.length < 17592186044416) : ∀ (d i : Nat) (n : Int), i + d = L.length → 0 ≤ n → n + ((L.drop i).flatten.length : Int) < 17592186044416 →
    Ev (fun k => api_Range_49.l0 k L n L (L.length : Int) (i : Int)) L.flatten := by
  intro d
  induction d with
  | zero =>
    intro i n hi h0 hn
    have h := concat_l1 L hL L.length 0 [] (by omega) (by rw [List.drop_zero]; simpa using hf)
    rw [List.drop_zero, List.nil_append] at h
    refine Ev.step (fun k => ?_) h
    simp only [api_Range_49.l0, api_Range_58.f]
    rw [if_neg (by omega), if_pos h0, if_pos (by omega)]
    rfl
  | succ d ih =>
    intro i n hi h0 hn
    have hlt : i < L.length := by omega
    rw [List.drop_eq_getElem_cons hlt, List.flatten_cons, List.length_append] at hn
    have h := ih (i + 1) (n + (L[i].length : Int)) (by omega) (by omega) (by omega)
    refine Ev.step (fun k => ?_) h
    simp only [api_Range_49.l0]
    rw [if_pos (by omega), if_pos (by omega), if_pos (by omega), rd_L2_at L i hlt, wrap64_of (x := n + (L[i].length : Int)) (by omega) (by omega), if_neg (by omega), wrap_succ hlt (by omega)]
theorem union_ev (L : List (List S41)) (hL : L.length < 17592186044416) (hf : L.flatten.length < 17592186044416) : ∃ s, Ev (fun k => charset_Union.f k L) s ∧ Can s ∧ ∀ x, mem s x ↔ inU x ∧ memA L x := by
  have h := concat_l0 L hL hf L.length 0 0 (by omega) (by omega) (by rw [List.drop_zero]; omega)
  obtain ⟨c, m⟩ := ofR_spec L.flatten
  refine ⟨ofR L.flatten, ?_, c, fun x => by rw [m, mem_flatten]⟩
  unfold charset_Union.f
  refine Ev.bind (a := L.flatten) ?_ (Ev.bind (of_ev _ hf) (Ev.now _))
  exact h
end Go.Proofs.Ytomccgpachmpbaa.Pure
