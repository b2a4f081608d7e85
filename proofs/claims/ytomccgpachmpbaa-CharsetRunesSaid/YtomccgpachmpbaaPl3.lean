/- What the program's set operations come to: canonical lists with the members that the operation asks for. -/
import Derived.Test.YtomccgpachmpbaaPAx11
import Derived.Test.YtomccgpachmpbaaPAx12
import Derived.Test.YtomccgpachmpbaaPAx13
import Derived.Test.YtomccgpachmpbaaPl2
-- needs: charset_Inter charset_Union charset_Not charset_Minus arboristref03_Union arboristref03_Inter arboristref03_Minus arboristref03_Not arboristref03_Of
namespace Go.Proofs.Ytomccgpachmpbaa.Pure
open Go.RowKit Go.Proofs.Ytomccgpachmpbaa.PA Go.Proofs.YtomccgpachmpbaaW.PrintWords Go.Proofs.YtomccgpachmpbaaW.PrintLast Go.Proofs.YtomccgpachmpbaaW.PrintMore
set_option linter.unusedVariables false

/-! ### the reference's Of, Union, Inter, Minus, Not -/
theorem rof_ev (l : List S41) (hl : l.length < 17592186044416) : ∃ s, Ev (fun k => arboristref03_Of.f k l) s ∧ Can s ∧ ∀ x, mem s x ↔ inU x ∧ mem l x := by
  obtain ⟨s, h1, h2, h3⟩ := both_ev l [] 1 (.inl rfl) hl (by simp)
  refine ⟨s, ?_, h2, fun x => ?_⟩
  · unfold arboristref03_Of.f; exact Ev.bind h1 (Ev.now _)
  · rw [h3, inS_nil]
    unfold opB
    rw [if_pos rfl, Bool.or_false, inS_iff]
    exact ⟨fun h => h.2, fun h => ⟨h.1, h⟩⟩
theorem rinter_ev (a b : List S41) (la : a.length < 17592186044416) (lb : b.length < 17592186044416) : ∃ s, Ev (fun k => arboristref03_Inter.f k a b) s ∧ Can s ∧ ∀ x, mem s x ↔ inU x ∧ mem a x ∧ mem b x := by
  obtain ⟨s, h1, h2, h3⟩ := both_ev a b 2 (.inr (.inl rfl)) la lb
  refine ⟨s, ?_, h2, fun x => ?_⟩
  · unfold arboristref03_Inter.f; exact Ev.bind h1 (Ev.now _)
  · rw [h3]
    unfold opB
    rw [if_neg (by omega), if_pos rfl, Bool.and_eq_true, inS_iff, inS_iff]
    exact ⟨fun h => ⟨h.1, h.2.1.2, h.2.2.2⟩, fun h => ⟨h.1, ⟨h.1, h.2.1⟩, h.1, h.2.2⟩⟩
theorem rminus_ev (a b : List S41) (la : a.length < 17592186044416) (lb : b.length < 17592186044416) : ∃ s, Ev (fun k => arboristref03_Minus.f k a b) s ∧ Can s ∧ ∀ x, mem s x ↔ inU x ∧ mem a x ∧ ¬ mem b x := by
  obtain ⟨s, h1, h2, h3⟩ := both_ev a b 3 (.inr (.inr rfl)) la lb
  refine ⟨s, ?_, h2, fun x => ?_⟩
  · unfold arboristref03_Minus.f; exact Ev.bind h1 (Ev.now _)
  · rw [h3]
    unfold opB
    rw [if_neg (by omega), if_neg (by omega), Bool.and_eq_true, Bool.not_eq_true', inS_iff, Bool.eq_false_iff, ne_eq, inS_iff]
    exact ⟨fun h => ⟨h.1, h.2.1.2, fun g => h.2.2 ⟨h.1, g⟩⟩, fun h => ⟨h.1, ⟨h.1, h.2.1⟩, fun g => h.2.2 g.2⟩⟩
theorem rnot_ev (a : List S41) (la : a.length < 17592186044416) : ∃ s, Ev (fun k => arboristref03_Not.f k a) s ∧ Can s ∧ ∀ x, mem s x ↔ inU x ∧ ¬ mem a x := by
  obtain ⟨s, h1, h2, h3⟩ := both_ev [⟨0, 1114111⟩] a 3 (.inr (.inr rfl)) (by simp) la
  refine ⟨s, ?_, h2, fun x => ?_⟩
  · unfold arboristref03_Not.f; exact Ev.bind h1 (Ev.now _)
  · rw [h3]
    unfold opB
    rw [if_neg (by omega), if_neg (by omega), Bool.and_eq_true, Bool.not_eq_true', inS_iff, Bool.eq_false_iff, ne_eq, inS_iff, mem_one]
    exact ⟨fun h => ⟨h.1, fun g => h.2.2 ⟨h.1, g⟩⟩, fun h => ⟨h.1, ⟨h.1, h.1⟩, fun g => h.2 g.2⟩⟩
def memA (L : List (List S41)) (x : Int) : Prop := ∃ l ∈ L, mem l x
theorem memA_nil (x : Int) : ¬ memA [] x := by rintro ⟨l, hl, _⟩; exact absurd hl (by simp)
theorem memA_cons {l : List S41} {L : List (List S41)} {x : Int} : memA (l :: L) x ↔ mem l x ∨ memA L x := by
  constructor
  · rintro ⟨m, hm, h⟩
    rcases List.mem_cons.1 hm with rfl | hm
    · exact .inl h
    · exact .inr ⟨m, hm, h⟩
  · rintro (h | ⟨m, hm, h⟩)
    · exact ⟨l, by simp, h⟩
    · exact ⟨m, by simp [hm], h⟩
theorem runion_l0 (L : List (List S41)) (hL : L.length < 17592186044416) (hl : ∀ l ∈ L, l.length < 17592186044416) : ∀ (d i : Nat) (o : List S41), i + d = L.length → Can o →
    ∃ s, Ev (fun k => arboristref03_Union.l0 k L o (i : Int)) s ∧ Can s ∧ ∀ x, mem s x ↔ inU x ∧ (mem o x ∨ memA (L.drop i) x) := by
  intro d
  induction d with
  | zero =>
    intro i o hi ho
    refine ⟨o, Ev.step (f := fun _ => some o) (fun k => ?_) (Ev.now _), ho, fun x => ?_⟩
    · simp only [arboristref03_Union.l0]
      rw [if_neg (by omega)]
    · rw [List.drop_eq_nil_of_le (by omega)]
      exact ⟨fun h => ⟨can_mem ho h, .inl h⟩, fun h => h.2.resolve_right (memA_nil x)⟩
  | succ d ih =>
    intro i o hi ho
    have hlt : i < L.length := by omega
    obtain ⟨t, t1, t2, t3⟩ := both_ev o L[i] 1 (.inl rfl) (by have := can_len ho; omega) (hl _ (List.getElem_mem _))
    obtain ⟨s, h1, h2, h3⟩ := ih (i + 1) t (by omega) t2
    refine ⟨s, Ev.step (f := fun k => (arboristref03_both.f k o L[i] 1).bind fun t => arboristref03_Union.l0 k L t ((i + 1 : Nat) : Int)) (fun k => ?_) (Ev.bind t1 h1), h2, fun x => ?_⟩
    · simp only [arboristref03_Union.l0]
      rw [if_pos (by omega), if_pos (by omega), rd_L2_at L i hlt, wrap_succ hlt (by omega)]
    · rw [h3, t3, List.drop_eq_getElem_cons hlt, memA_cons]
      unfold opB
      rw [if_pos rfl, Bool.or_eq_true, inS_iff, inS_iff]
      constructor
      · rintro ⟨g1, ⟨_, g2 | g2⟩ | g2⟩
        · exact ⟨g1, .inl g2.2⟩
        · exact ⟨g1, .inr (.inl g2.2)⟩
        · exact ⟨g1, .inr (.inr g2)⟩
      · rintro ⟨g1, g2 | g2 | g2⟩
        · exact ⟨g1, .inl ⟨g1, .inl ⟨g1, g2⟩⟩⟩
        · exact ⟨g1, .inl ⟨g1, .inr ⟨g1, g2⟩⟩⟩
        · exact ⟨g1, .inr g2⟩
theorem runion_ev (L : List (List S41)) (hL : L.length < 17592186044416) (hl : ∀ l ∈ L, l.length < 17592186044416) : ∃ s, Ev (fun k => arboristref03_Union.f k L) s ∧ Can s ∧ ∀ x, mem s x ↔ inU x ∧ memA L x := by
  obtain ⟨s, h1, h2, h3⟩ := runion_l0 L hL hl L.length 0 [] (by omega) can_nil
  refine ⟨s, h1, h2, fun x => ?_⟩
  rw [h3, List.drop_zero]
  exact ⟨fun h => ⟨h.1, h.2.resolve_left (mem_nil x)⟩, fun h => ⟨h.1, .inr h.2⟩⟩

/-! ### Inter -/
theorem inter_l0 (a b : List S41) (ha : Can a) (hb : Can b) : ∀ (d i j : Nat) (o : List S41), i ≤ a.length → j ≤ b.length → (a.length - i) + (b.length - j) = d → o.length + d < 17592186044416 →
    ∃ F : List S41, F.length < 17592186044416 ∧ (∀ x, mem F x ↔ mem o x ∨ (mem (a.drop i) x ∧ mem (b.drop j) x)) ∧ Ev (fun k => charset_Inter.l0 k a b o (i : Int) (j : Int)) (ofR F) := by
  have la := can_len ha
  have lb := can_len hb
  intro d
  induction d with
  | zero =>
    intro i j o hi hj hd ho
    refine ⟨o, by omega, fun x => ?_, ?_⟩
    · rw [List.drop_eq_nil_of_le (by omega)]
      exact ⟨.inl, fun h => h.resolve_right (fun g => mem_nil x g.1)⟩
    · refine Ev.step (f := fun k => charset_Inter.j1 k a b o (i : Int) (j : Int) false) (fun k => ?_) (Ev.step (f := fun k => charset_Of.f k o) (fun k => ?_) (of_ev o (by omega)))
      · simp only [charset_Inter.l0]
        rw [if_neg (by omega)]
      · simp only [charset_Inter.j1]
        rw [if_neg (by simp)]
        cases charset_Of.f k o <;> rfl
  | succ d ih =>
    intro i j o hi hj hd ho
    by_cases hia : i < a.length
    · by_cases hjb : j < b.length
      · have oa := ha.1 _ (List.getElem_mem hia)
        have ob := hb.1 _ (List.getElem_mem hjb)
        have ca := ha.2
        have cb := hb.2
        have da : ∀ x, mem (a.drop (i + 1)) x → a[i].f1 + 1 < x := by
          rintro x ⟨y, hy, h1, _⟩
          obtain ⟨m, hm, rfl⟩ := List.mem_iff_getElem.1 hy
          rw [List.getElem_drop] at h1
          have := List.pairwise_iff_getElem.1 ca i (i + 1 + m) hia (by rw [List.length_drop] at hm; omega) (by omega)
          omega
        have db : ∀ x, mem (b.drop (j + 1)) x → b[j].f1 + 1 < x := by
          rintro x ⟨y, hy, h1, _⟩
          obtain ⟨m, hm, rfl⟩ := List.mem_iff_getElem.1 hy
          rw [List.getElem_drop] at h1
          have := List.pairwise_iff_getElem.1 cb j (j + 1 + m) hjb (by rw [List.length_drop] at hm; omega) (by omega)
          omega
        unfold Ok at oa ob
        -- what is told of this pair
        let o' : List S41 := if max a[i].f0 b[j].f0 ≤ min a[i].f1 b[j].f1 then o ++ [⟨max a[i].f0 b[j].f0, min a[i].f1 b[j].f1⟩] else o
        have ho' : o'.length ≤ o.length + 1 := by
          show (if _ then _ else _ : List S41).length ≤ _
          split
          · rw [List.length_append, List.length_singleton]; omega
          · omega
        have hm' : ∀ x, mem o' x ↔ mem o x ∨ ((a[i].f0 ≤ x ∧ x ≤ a[i].f1) ∧ (b[j].f0 ≤ x ∧ x ≤ b[j].f1)) := by
          intro x
          show mem (if _ then _ else _ : List S41) x ↔ _
          split
          · rw [mem_append, mem_one]
            simp only
            constructor
            · rintro (h | h)
              · exact .inl h
              · exact .inr (by omega)
            · rintro (h | h)
              · exact .inl h
              · exact .inr (by omega)
          · exact ⟨.inl, fun h => h.resolve_right (by omega)⟩
        have hstep : ∀ s, (if a[i].f1 < b[j].f1 then Ev (fun k => charset_Inter.l0 k a b o' ((i + 1 : Nat) : Int) (j : Int)) s else Ev (fun k => charset_Inter.l0 k a b o' (i : Int) ((j + 1 : Nat) : Int)) s) → Ev (fun k => charset_Inter.l0 k a b o (i : Int) (j : Int)) s := by
          intro s hs
          refine Ev.step (f := fun k => charset_Inter.j1 k a b o (i : Int) (j : Int) true) (fun k => ?_) ?_
          · simp only [charset_Inter.l0]
            rw [if_pos (by omega), decide_eq_true (by omega)]
          · by_cases h1 : max a[i].f0 b[j].f0 ≤ min a[i].f1 b[j].f1
            · have eo : o' = o ++ [⟨max a[i].f0 b[j].f0, min a[i].f1 b[j].f1⟩] := if_pos h1
              rw [eo] at hs
              by_cases h2 : a[i].f1 < b[j].f1
              · rw [if_pos h2] at hs
                refine Ev.step (fun k => ?_) hs
                simp only [charset_Inter.j1]
                rw [if_pos trivial, if_pos (by omega), if_pos (by omega), if_pos (by omega), if_pos (by omega), rd_at a i hia, rd_at b j hjb, mx_eq, mn_eq, if_pos h1, if_pos (by omega), Option.bind_some, if_pos h2, wrap_succ hia (by omega)]
              · rw [if_neg h2] at hs
                refine Ev.step (fun k => ?_) hs
                simp only [charset_Inter.j1]
                rw [if_pos trivial, if_pos (by omega), if_pos (by omega), if_pos (by omega), if_pos (by omega), rd_at a i hia, rd_at b j hjb, mx_eq, mn_eq, if_pos h1, if_pos (by omega), Option.bind_some, if_neg h2, wrap_succ hjb (by omega)]
            · have eo : o' = o := if_neg h1
              rw [eo] at hs
              by_cases h2 : a[i].f1 < b[j].f1
              · rw [if_pos h2] at hs
                refine Ev.step (fun k => ?_) hs
                simp only [charset_Inter.j1]
                rw [if_pos trivial, if_pos (by omega), if_pos (by omega), if_pos (by omega), if_pos (by omega), rd_at a i hia, rd_at b j hjb, mx_eq, mn_eq, if_neg h1, if_pos h2, wrap_succ hia (by omega)]
              · rw [if_neg h2] at hs
                refine Ev.step (fun k => ?_) hs
                simp only [charset_Inter.j1]
                rw [if_pos trivial, if_pos (by omega), if_pos (by omega), if_pos (by omega), if_pos (by omega), rd_at a i hia, rd_at b j hjb, mx_eq, mn_eq, if_neg h1, if_neg h2, wrap_succ hjb (by omega)]
        by_cases h2 : a[i].f1 < b[j].f1
        · obtain ⟨F, f1, f2, f3⟩ := ih (i + 1) j o' (by omega) hj (by omega) (by omega)
          refine ⟨F, f1, fun x => ?_, hstep _ (by rw [if_pos h2]; exact f3)⟩
          rw [f2, hm', List.drop_eq_getElem_cons hia, List.drop_eq_getElem_cons hjb, mem_cons, mem_cons]
          have := db x
          constructor
          · rintro ((h | h) | ⟨h3, h4⟩)
            · exact .inl h
            · exact .inr ⟨.inl h.1, .inl h.2⟩
            · exact .inr ⟨.inr h3, h4⟩
          · rintro (h | ⟨h3 | h3, h4 | h4⟩)
            · exact .inl (.inl h)
            · exact .inl (.inr ⟨h3, h4⟩)
            · have := this h4; omega
            · exact .inr ⟨h3, .inl h4⟩
            · exact .inr ⟨h3, .inr h4⟩
        · obtain ⟨F, f1, f2, f3⟩ := ih i (j + 1) o' hi (by omega) (by omega) (by omega)
          refine ⟨F, f1, fun x => ?_, hstep _ (by rw [if_neg h2]; exact f3)⟩
          rw [f2, hm', List.drop_eq_getElem_cons hia, List.drop_eq_getElem_cons hjb, mem_cons, mem_cons]
          have := da x
          constructor
          · rintro ((h | h) | ⟨h3, h4⟩)
            · exact .inl h
            · exact .inr ⟨.inl h.1, .inl h.2⟩
            · exact .inr ⟨h3, .inr h4⟩
          · rintro (h | ⟨h3 | h3, h4 | h4⟩)
            · exact .inl (.inl h)
            · exact .inl (.inr ⟨h3, h4⟩)
            · exact .inr ⟨.inl h3, h4⟩
            · have := this h3; omega
            · exact .inr ⟨.inr h3, h4⟩
      · refine ⟨o, by omega, fun x => ?_, ?_⟩
        · rw [show b.drop j = [] from List.drop_eq_nil_of_le (by omega)]
          exact ⟨.inl, fun h => h.resolve_right (fun g => mem_nil x g.2)⟩
        · refine Ev.step (f := fun k => charset_Inter.j1 k a b o (i : Int) (j : Int) false) (fun k => ?_) (Ev.step (f := fun k => charset_Of.f k o) (fun k => ?_) (of_ev o (by omega)))
          · simp only [charset_Inter.l0]
            rw [if_pos (by omega), decide_eq_false (by omega)]
          · simp only [charset_Inter.j1]
            rw [if_neg (by simp)]
            cases charset_Of.f k o <;> rfl
    · refine ⟨o, by omega, fun x => ?_, ?_⟩
      · rw [show a.drop i = [] from List.drop_eq_nil_of_le (by omega)]
        exact ⟨.inl, fun h => h.resolve_right (fun g => mem_nil x g.1)⟩
      · refine Ev.step (f := fun k => charset_Inter.j1 k a b o (i : Int) (j : Int) false) (fun k => ?_) (Ev.step (f := fun k => charset_Of.f k o) (fun k => ?_) (of_ev o (by omega)))
        · simp only [charset_Inter.l0]
          rw [if_neg (by omega)]
        · simp only [charset_Inter.j1]
          rw [if_neg (by simp)]
          cases charset_Of.f k o <;> rfl
theorem inter_ev (a b : List S41) (la : a.length < 17592186044416) (lb : b.length < 17592186044416) : ∃ s, Ev (fun k => charset_Inter.f k a b) s ∧ Can s ∧ ∀ x, mem s x ↔ inU x ∧ mem a x ∧ mem b x := by
  obtain ⟨ca, ma⟩ := madeR_spec a
  obtain ⟨cb, mb⟩ := madeR_spec b
  have na := can_len ca
  have nb := can_len cb
  obtain ⟨F, f1, f2, f3⟩ := inter_l0 (madeR a) (madeR b) ca cb _ 0 0 [] (by omega) (by omega) rfl (by simp only [List.length_nil]; omega)
  obtain ⟨cF, mF⟩ := ofR_spec F
  refine ⟨ofR F, ?_, cF, fun x => ?_⟩
  · unfold charset_Inter.f
    exact Ev.bind (made_ev a la) (Ev.bind (made_ev b lb) f3)
  · rw [mF, f2, List.drop_zero, List.drop_zero, ma, mb]
    constructor
    · rintro ⟨h1, h2 | h2⟩
      · exact absurd h2 (mem_nil x)
      · exact ⟨h1, h2.1.2, h2.2.2⟩
    · rintro ⟨h1, h2, h3⟩
      exact ⟨h1, .inr ⟨⟨h1, h2⟩, h1, h3⟩⟩

/-! ### Not -/
theorem not_l0 (l : List S41) (hl : Can l) : ∀ (d i : Nat) (o : List S41) (fr : Int), i + d = l.length → o.length ≤ i → 0 ≤ fr → fr ≤ 1114112 → (∀ y ∈ l.drop i, fr ≤ y.f0) → (0 < i → ∀ y ∈ l.drop i, fr < y.f0) → Can o → (∀ y ∈ o, y.f1 + 1 < fr) →
    ∃ s, Ev (fun k => charset_Not.l0 k o fr l (l.length : Int) (i : Int)) s ∧ Can s ∧ ∀ x, mem s x ↔ mem o x ∨ (fr ≤ x ∧ x ≤ 1114111 ∧ ¬ mem (l.drop i) x) := by
  have ln := can_len hl
  intro d
  induction d with
  | zero =>
    intro i o fr hi ho f0 f1 hf hf' co hof
    rw [List.drop_eq_nil_of_le (by omega)]
    by_cases h : fr ≤ 1114111
    · refine ⟨o ++ [⟨fr, 1114111⟩], Ev.step (f := fun _ => some (o ++ [⟨fr, 1114111⟩])) (fun k => ?_) (Ev.now _), can_snoc.2 ⟨co, ⟨f0, h, Int.le_refl _⟩, hof⟩, fun x => ?_⟩
      · simp only [charset_Not.l0, charset_all.f, Option.bind_some]
        rw [if_neg (by omega), if_pos h, if_pos (by omega)]
      · rw [mem_append, mem_one]
        simp only
        constructor
        · rintro (g | g)
          · exact .inl g
          · exact .inr ⟨g.1, g.2, mem_nil x⟩
        · rintro (g | g)
          · exact .inl g
          · exact .inr ⟨g.1, g.2.1⟩
    · refine ⟨o, Ev.step (f := fun _ => some o) (fun k => ?_) (Ev.now _), co, fun x => ?_⟩
      · simp only [charset_Not.l0, charset_all.f, Option.bind_some]
        rw [if_neg (by omega), if_neg h]
      · exact ⟨.inl, fun g => g.resolve_right (fun g => by omega)⟩
  | succ d ih =>
    intro i o fr hi ho f0 f1 hf hf' co hof
    have hlt : i < l.length := by omega
    have oy := hl.1 _ (List.getElem_mem hlt)
    unfold Ok at oy
    rw [List.drop_eq_getElem_cons hlt] at hf hf' ⊢
    have hy := hf l[i] List.mem_cons_self
    have hrest : ∀ y ∈ l.drop (i + 1), l[i].f1 + 1 < y.f0 := by
      intro y hy
      obtain ⟨m, hm, rfl⟩ := List.mem_iff_getElem.1 hy
      rw [List.getElem_drop]
      exact List.pairwise_iff_getElem.1 hl.2 i (i + 1 + m) hlt (by rw [List.length_drop] at hm; omega) (by omega)
    by_cases h : fr < l[i].f0
    · obtain ⟨s, s1, s2, s3⟩ := ih (i + 1) (o ++ [⟨fr, l[i].f0 - 1⟩]) (l[i].f1 + 1) (by omega) (by rw [List.length_append, List.length_singleton]; omega) (by omega) (by omega) (fun y hy => by have := hrest y hy; omega) (fun _ y hy => hrest y hy)
        (can_snoc.2 ⟨co, by unfold Ok; simp only; omega, hof⟩) (fun y hy => by
          rcases List.mem_append.1 hy with hy | hy
          · have := hof y hy; omega
          · rw [List.mem_singleton.1 hy]; simp only; omega)
      refine ⟨s, Ev.step (fun k => ?_) s1, s2, fun x => ?_⟩
      · simp only [charset_Not.l0]
        rw [if_pos (by omega), if_pos (by omega), if_pos (by omega), rd_at l i hlt, if_pos h, if_pos (by omega), wrap32_of (by omega) (by omega), wrap32_of (by omega) (by omega), wrap_succ hlt (by omega)]
      · rw [s3, mem_append, mem_one, mem_cons]
        simp only
        constructor
        · rintro ((g | g) | g)
          · exact .inl g
          · refine .inr ⟨by omega, by omega, ?_⟩
            rintro (e | ⟨y, hy, e1, e2⟩)
            · omega
            · have := hrest y hy; omega
          · refine .inr ⟨by omega, by omega, ?_⟩
            rintro (e | e)
            · omega
            · exact g.2.2 e
        · rintro (g | ⟨g1, g2, g3⟩)
          · exact .inl (.inl g)
          · by_cases hx : x < l[i].f0
            · exact .inl (.inr (by omega))
            · exact .inr ⟨by
              rcases Int.lt_or_le l[i].f1 x with q | q
              · omega
              · exact absurd (.inl ⟨by omega, q⟩) g3, g2, fun e => g3 (.inr e)⟩
    · have hi0 : ¬ 0 < i := fun g => h (hf' g l[i] List.mem_cons_self)
      have ho0 : o = [] := List.length_eq_zero_iff.1 (by omega)
      subst ho0
      obtain ⟨s, s1, s2, s3⟩ := ih (i + 1) [] (l[i].f1 + 1) (by omega) (by simp) (by omega) (by omega) (fun y hy => by have := hrest y hy; omega) (fun _ y hy => hrest y hy) can_nil (fun y hy => absurd hy (by simp))
      refine ⟨s, Ev.step (fun k => ?_) s1, s2, fun x => ?_⟩
      · simp only [charset_Not.l0]
        rw [if_pos (by omega), if_pos (by omega), if_pos (by omega), rd_at l i hlt, if_neg h, wrap32_of (by omega) (by omega), wrap_succ hlt (by omega)]
      · rw [s3, mem_cons]
        constructor
        · rintro (g | g)
          · exact .inl g
          · refine .inr ⟨by omega, by omega, ?_⟩
            rintro (e | e)
            · omega
            · exact g.2.2 e
        · rintro (g | ⟨g1, g2, g3⟩)
          · exact .inl g
          · exact .inr ⟨by
              rcases Int.lt_or_le l[i].f1 x with q | q
              · omega
              · exact absurd (.inl ⟨by omega, q⟩) g3, g2, fun e => g3 (.inr e)⟩
theorem not_ev (a : List S41) (la : a.length < 17592186044416) : ∃ s, Ev (fun k => charset_Not.f k a) s ∧ Can s ∧ ∀ x, mem s x ↔ inU x ∧ ¬ mem a x := by
  obtain ⟨ca, ma⟩ := madeR_spec a
  obtain ⟨s, s1, s2, s3⟩ := not_l0 (madeR a) ca (madeR a).length 0 [] 0 (by omega) (by simp) (by omega) (by omega) (fun y hy => (ca.1 y (by simpa using hy)).1) (fun h => by omega) can_nil (fun y hy => absurd hy (by simp))
  refine ⟨s, ?_, s2, fun x => ?_⟩
  · unfold charset_Not.f
    simp only [charset_all.f, Option.bind_some]
    exact Ev.bind (made_ev a la) s1
  · rw [s3, List.drop_zero, ma]
    unfold inU
    constructor
    · rintro (h | ⟨h1, h2, h3⟩)
      · exact absurd h (mem_nil x)
      · exact ⟨⟨h1, h2⟩, fun h => h3 ⟨⟨h1, h2⟩, h⟩⟩
    · rintro ⟨h1, h2⟩
      exact .inr ⟨h1.1, h1.2, fun h => h2 h.2⟩
theorem minus_ev (a b : List S41) (la : a.length < 17592186044416) (lb : b.length < 17592186044416) : ∃ s, Ev (fun k => charset_Minus.f k a b) s ∧ Can s ∧ ∀ x, mem s x ↔ inU x ∧ mem a x ∧ ¬ mem b x := by
  obtain ⟨t, t1, t2, t3⟩ := not_ev b lb
  have := can_len t2
  obtain ⟨s, s1, s2, s3⟩ := inter_ev a t la (by omega)
  refine ⟨s, ?_, s2, fun x => ?_⟩
  · unfold charset_Minus.f
    exact Ev.bind t1 (Ev.bind s1 (Ev.now _))
  · rw [s3, t3]
    exact ⟨fun h => ⟨h.1, h.2.1, h.2.2.2⟩, fun h => ⟨h.1, h.2.1, h.1, h.2.2⟩⟩

/-! ### Union -/
theorem mem_flatten {L : List (List S41)} {x : Int} : mem L.flatten x ↔ memA L x := by
  unfold mem memA mem
  constructor
  · rintro ⟨y, hy, h⟩
    obtain ⟨l, hl, hyl⟩ := List.mem_flatten.1 hy
    exact ⟨l, hl, y, hyl, h⟩
  · rintro ⟨l, hl, y, hyl, h⟩
    exact ⟨y, List.mem_flatten.2 ⟨l, hl, hyl⟩, h⟩
theorem concat_l1 (L : List (List S41)) (hL : L.length < 17592186044416) : ∀ (d i : Nat) (o : List S41), i + d = L.length → o.length + (L.drop i).flatten.length < 17592186044416 →
    Ev (fun k => api_Range_49.l1 k o L (L.length : Int) (i : Int)) (o ++ (L.drop i).flatten) := by
  intro d
  induction d with
  | zero =>
    intro i o hi ho
    rw [List.drop_eq_nil_of_le (by omega)]
    refine Ev.step (f := fun _ => some o) (fun k => ?_) (by rw [List.flatten_nil, List.append_nil]; exact Ev.now _)
    simp only [api_Range_49.l1]
    rw [if_neg (by omega)]
  | succ d ih =>
    intro i o hi ho
    have hlt : i < L.length := by omega
    rw [List.drop_eq_getElem_cons hlt, List.flatten_cons] at ho ⊢
    rw [List.length_append] at ho
    have h := ih (i + 1) (o ++ L[i]) (by omega) (by rw [List.length_append]; omega)
    rw [List.append_assoc] at h
    refine Ev.step (fun k => ?_) h
    simp only [api_Range_49.l1]
    rw [if_pos (by omega), if_pos (by omega), if_pos (by omega), rd_L2_at L i hlt, if_pos (by omega), wrap_succ hlt (by omega)]
theorem concat_l0 (L : List (List S41)) (hL : L.length < 17592186044416) (hf : L.flatten.length < 17592186044416) : ∀ (d i : Nat) (n : Int), i + d = L.length → 0 ≤ n → n + ((L.drop i).flatten.length : Int) < 17592186044416 →
    Ev (fun k => api_Range_49.l0 k L n L (L.length : Int) (i : Int)) L.flatten := by
  intro d
  induction d with
  | zero =>
    intro i n hi h0 hn
    have h := concat_l1 L hL L.length 0 [] (by omega) (by rw [List.drop_zero]; simpa using hf)
    rw [List.drop_zero, List.nil_append] at h
    refine Ev.step (fun k => ?_) h
    simp only [api_Range_49.l0, api_Range_58.f]
    rw [if_neg (by omega), if_pos h0, if_pos (by omega)]
    rfl
  | succ d ih =>
    intro i n hi h0 hn
    have hlt : i < L.length := by omega
    rw [List.drop_eq_getElem_cons hlt, List.flatten_cons, List.length_append] at hn
    have h := ih (i + 1) (n + (L[i].length : Int)) (by omega) (by omega) (by omega)
    refine Ev.step (fun k => ?_) h
    simp only [api_Range_49.l0]
    rw [if_pos (by omega), if_pos (by omega), if_pos (by omega), rd_L2_at L i hlt, wrap64_of (x := n + (L[i].length : Int)) (by omega) (by omega), if_neg (by omega), wrap_succ hlt (by omega)]
theorem union_ev (L : List (List S41)) (hL : L.length < 17592186044416) (hf : L.flatten.length < 17592186044416) : ∃ s, Ev (fun k => charset_Union.f k L) s ∧ Can s ∧ ∀ x, mem s x ↔ inU x ∧ memA L x := by
  have h := concat_l0 L hL hf L.length 0 0 (by omega) (by omega) (by rw [List.drop_zero]; omega)
  obtain ⟨c, m⟩ := ofR_spec L.flatten
  refine ⟨ofR L.flatten, ?_, c, fun x => by rw [m, mem_flatten]⟩
  unfold charset_Union.f
  refine Ev.bind (a := L.flatten) ?_ (Ev.bind (of_ev _ hf) (Ev.now _))
  exact h

/-! ### how many -/
def cnt (p : Int → Bool) : Nat → Int
  | 0 => 0
  | n + 1 => cnt p n + (if p (n : Int) = true then 1 else 0)
theorem cnt_add (p q r s : Int → Bool) (h : ∀ x, 0 ≤ x → (if p x = true then (1 : Int) else 0) + (if q x = true then 1 else 0) = (if r x = true then 1 else 0) + (if s x = true then 1 else 0)) : ∀ n, cnt p n + cnt q n = cnt r n + cnt s n := by
  intro n
  induction n with
  | zero => rfl
  | succ n ih => simp only [cnt]; have := h (n : Int) (by omega); omega
theorem cnt_congr {p q : Int → Bool} (h : ∀ x, 0 ≤ x → p x = q x) : ∀ n, cnt p n = cnt q n := by
  intro n
  induction n with
  | zero => rfl
  | succ n ih => simp only [cnt]; rw [ih, h (n : Int) (by omega)]
theorem cnt_none : ∀ n, cnt (fun _ => false) n = 0 := by
  intro n
  induction n with
  | zero => rfl
  | succ n ih => simp only [cnt]; rw [ih]; rfl
theorem cnt_range (lo hi : Int) (h0 : 0 ≤ lo) : ∀ n : Nat, cnt (fun x => decide (lo ≤ x) && decide (x ≤ hi)) n = max 0 (min (n : Int) (hi + 1) - lo) := by
  intro n
  induction n with
  | zero => simp only [cnt]; omega
  | succ n ih =>
    simp only [cnt, ih, Bool.and_eq_true, decide_eq_true_iff]
    split <;> omega
theorem cnt_can : ∀ (l : List S41), Can l → cnt (inS l) 1114112 = szR l := by
  intro l
  induction l with
  | nil =>
    intro _
    rw [cnt_congr (q := fun _ => false) (fun x _ => inS_nil x), cnt_none]; rfl
  | cons y t ih =>
    intro h
    obtain ⟨h1, h2, h3⟩ := can_cons.1 h
    unfold Ok at h1
    have h4 := cnt_add (inS (y :: t)) (fun _ => false) (fun x => decide (y.f0 ≤ x) && decide (x ≤ y.f1)) (inS t) (fun x hx => by
      by_cases hy : max y.f0 0 ≤ x ∧ x ≤ min y.f1 1114111
      · rw [inS_cons_pos hy, if_pos rfl, if_neg (by simp), if_pos (by simp only [Bool.and_eq_true, decide_eq_true_iff]; omega)]
        have : inS t x = false := by
          rw [Bool.eq_false_iff, ne_eq, inS_iff]
          rintro ⟨_, z, hz, e1, e2⟩
          have := h2 z hz
          omega
        rw [this, if_neg (by simp)]
      · rw [inS_cons_neg hy, if_neg (c := false = true) (by simp), if_neg (c := (decide (y.f0 ≤ x) && decide (x ≤ y.f1)) = true) (by simp only [Bool.and_eq_true, decide_eq_true_iff]; omega)]
        omega) 1114112
    rw [cnt_none, ih h3, cnt_range _ _ (by omega)] at h4
    simp only [szR]
    omega
theorem szR_made (l : List S41) : szR (madeR l) = cnt (inS l) 1114112 := by
  obtain ⟨c, m⟩ := madeR_spec l
  rw [← cnt_can _ c]
  refine cnt_congr (fun x _ => ?_) _
  rw [Bool.eq_iff_iff, inS_iff, inS_iff, m]
  exact ⟨fun h => ⟨h.1, h.2.2⟩, fun h => ⟨h.1, h.1, h.2⟩⟩
theorem cnt_le (p : Int → Bool) : ∀ n, 0 ≤ cnt p n ∧ cnt p n ≤ n := by
  intro n
  induction n with
  | zero => simp only [cnt]; omega
  | succ n ih => simp only [cnt]; split <;> omega
end Go.Proofs.Ytomccgpachmpbaa.Pure
