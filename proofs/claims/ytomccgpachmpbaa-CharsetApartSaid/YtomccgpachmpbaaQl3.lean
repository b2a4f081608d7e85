/- What the program's set operations come to: canonical lists with the members that the operation asks for. -/
import Derived.Test.YtomccgpachmpbaaPBx7
import Derived.Test.YtomccgpachmpbaaQl2
-- needs: charset_Inter
namespace Go.Proofs.Ytomccgpachmpbaa.Pure
open Go.RowKit Go.Proofs.Ytomccgpachmpbaa.PB Go.Proofs.YtomccgpachmpbaaW.PrintWords Go.Proofs.YtomccgpachmpbaaW.PrintLast Go.Proofs.YtomccgpachmpbaaW.PrintMore
set_option linter.unusedVariables false

/-! ### Inter -/
theorem inter_l0 (a b : List S41) (ha : Can a) (hb : Can b) : ∀ (d i j : Nat) (o : List S41), i ≤ a.length → j ≤ b.length → (a.length - i) + (b.length - j) = d → o.length + d < 17592186044416 →
    ∃ F : List S41, F.length < 17592186044416 ∧ (∀ x, mem F x ↔ mem o x ∨ (mem (a.drop i) x ∧ mem (b.drop j) x)) ∧ Ev (fun k => charset_Inter.l0 k a b o (i : Int) (j : Int)) (ofR F) := by
  have la := can_len ha
  have lb := can_len hb
  intro d
  induction d with
  | zero =>
    intro i j o hi hj hd ho
    refine ⟨o, by omega, fun x => ?_, ?_⟩
    · rw [List.drop_eq_nil_of_le (by omega)]
      exact ⟨.inl, fun h => h.resolve_right (fun g => mem_nil x g.1)⟩
    · refine Ev.step (f := fun k => charset_Inter.j1 k a b o (i : Int) (j : Int) false) (fun k => ?_) (Ev.step (f := fun k => charset_Of.f k o) (fun k => ?_) (of_ev o (by omega)))
      · simp only [charset_Inter.l0]
        rw [if_neg (by omega)]
      · simp only [charset_Inter.j1]
        rw [if_neg (by simp)]
        cases charset_Of.f k o <;> rfl
  | succ d ih =>
    intro i j o hi hj hd ho
    by_cases hia : i < a.length
    · by_cases hjb : j < b.length
      · have oa := ha.1 _ (List.getElem_mem hia)
        have ob := hb.1 _ (List.getElem_mem hjb)
        have ca := ha.2
        have cb := hb.2
        have da : ∀ x, mem (a.drop (i + 1)) x → a[i].f1 + 1 < x := by
          rintro x ⟨y, hy, h1, _⟩
          obtain ⟨m, hm, rfl⟩ := List.mem_iff_getElem.1 hy
          rw [List.getElem_drop] at h1
          have := List.pairwise_iff_getElem.1 ca i (i + 1 + m) hia (by rw [List.length_drop] at hm; omega) (by omega)
          omega
        have db : ∀ x, mem (b.drop (j + 1)) x → b[j].f1 + 1 < x := by
          rintro x ⟨y, hy, h1, _⟩
          obtain ⟨m, hm, rfl⟩ := List.mem_iff_getElem.1 hy
          rw [List.getElem_drop] at h1
          have := List.pairwise_iff_getElem.1 cb j (j + 1 + m) hjb (by rw [List.length_drop] at hm; omega) (by omega)
          omega
        unfold Ok at oa ob
        -- what is told of this pair
        let o' : List S41 := if max a[i].f0 b[j].f0 ≤ min a[i].f1 b[j].f1 then o ++ [⟨max a[i].f0 b[j].f0, min a[i].f1 b[j].f1⟩] else o
        have ho' : o'.length ≤ o.length + 1 := by
          show (if _ then _ else _ : List S41).length ≤ _
          split
          · rw [List.length_append, List.length_singleton]; omega
          · omega
        have hm' : ∀ x, mem o' x ↔ mem o x ∨ ((a[i].f0 ≤ x ∧ x ≤ a[i].f1) ∧ (b[j].f0 ≤ x ∧ x ≤ b[j].f1)) := by
          intro x
          show mem (if _ then _ else _ : List S41) x ↔ _
          split
          · rw [mem_append, mem_one]
            simp only
            constructor
            · rintro (h | h)
              · exact .inl h
              · exact .inr (by omega)
            · rintro (h | h)
              · exact .inl h
              · exact .inr (by omega)
          · exact ⟨.inl, fun h => h.resolve_right (by omega)⟩
        have hstep : ∀ s, (if a[i].f1 < b[j].f1 then Ev (fun k => charset_Inter.l0 k a b o' ((i + 1 : Nat) : Int) (j : Int)) s else Ev (fun k => charset_Inter.l0 k a b o' (i : Int) ((j + 1 : Nat) : Int)) s) → Ev (fun k => charset_Inter.l0 k a b o (i : Int) (j : Int)) s := by
          intro s hs
          refine Ev.step (f := fun k => charset_Inter.j1 k a b o (i : Int) (j : Int) true) (fun k => ?_) ?_
          · simp only [charset_Inter.l0]
            rw [if_pos (by omega), decide_eq_true (by omega)]
          · by_cases h1 : max a[i].f0 b[j].f0 ≤ min a[i].f1 b[j].f1
            · have eo : o' = o ++ [⟨max a[i].f0 b[j].f0, min a[i].f1 b[j].f1⟩] := if_pos h1
              rw [eo] at hs
              by_cases h2 : a[i].f1 < b[j].f1
              · rw [if_pos h2] at hs
                refine Ev.step (fun k => ?_) hs
                simp only [charset_Inter.j1]
                rw [if_pos trivial, if_pos (by omega), if_pos (by omega), if_pos (by omega), if_pos (by omega), rd_at a i hia, rd_at b j hjb, mx_eq, mn_eq, if_pos h1, if_pos (by omega), Option.bind_some, if_pos h2, wrap_succ hia (by omega)]
              · rw [if_neg h2] at hs
                refine Ev.step (fun k => ?_) hs
                simp only [charset_Inter.j1]
                rw [if_pos trivial, if_pos (by omega), if_pos (by omega), if_pos (by omega), if_pos (by omega), rd_at a i hia, rd_at b j hjb, mx_eq, mn_eq, if_pos h1, if_pos (by omega), Option.bind_some, if_neg h2, wrap_succ hjb (by omega)]
            · have eo : o' = o := if_neg h1
              rw [eo] at hs
              by_cases h2 : a[i].f1 < b[j].f1
              · rw [if_pos h2] at hs
                refine Ev.step (fun k => ?_) hs
                simp only [charset_Inter.j1]
                rw [if_pos trivial, if_pos (by omega), if_pos (by omega), if_pos (by omega), if_pos (by omega), rd_at a i hia, rd_at b j hjb, mx_eq, mn_eq, if_neg h1, if_pos h2, wrap_succ hia (by omega)]
              · rw [if_neg h2] at hs
                refine Ev.step (fun k => ?_) hs
                simp only [charset_Inter.j1]
                rw [if_pos trivial, if_pos (by omega), if_pos (by omega), if_pos (by omega), if_pos (by omega), rd_at a i hia, rd_at b j hjb, mx_eq, mn_eq, if_neg h1, if_neg h2, wrap_succ hjb (by omega)]
        by_cases h2 : a[i].f1 < b[j].f1
        · obtain ⟨F, f1, f2, f3⟩ := ih (i + 1) j o' (by omega) hj (by omega) (by omega)
          refine ⟨F, f1, fun x => ?_, hstep _ (by rw [if_pos h2]; exact f3)⟩
          rw [f2, hm', List.drop_eq_getElem_cons hia, List.drop_eq_getElem_cons hjb, mem_cons, mem_cons]
          have := db x
          constructor
          · rintro ((h | h) | ⟨h3, h4⟩)
            · exact .inl h
            · exact .inr ⟨.inl h.1, .inl h.2⟩
            · exact .inr ⟨.inr h3, h4⟩
          · rintro (h | ⟨h3 | h3, h4 | h4⟩)
            · exact .inl (.inl h)
            · exact .inl (.inr ⟨h3, h4⟩)
            · have := this h4; omega
            · exact .inr ⟨h3, .inl h4⟩
            · exact .inr ⟨h3, .inr h4⟩
        · obtain ⟨F, f1, f2, f3⟩ := ih i (j + 1) o' hi (by omega) (by omega) (by omega)
          refine ⟨F, f1, fun x => ?_, hstep _ (by rw [if_neg h2]; exact f3)⟩
          rw [f2, hm', List.drop_eq_getElem_cons hia, List.drop_eq_getElem_cons hjb, mem_cons, mem_cons]
          have := da x
          constructor
          · rintro ((h | h) | ⟨h3, h4⟩)
            · exact .inl h
            · exact .inr ⟨.inl h.1, .inl h.2⟩
            · exact .inr ⟨h3, .inr h4⟩
          · rintro (h | ⟨h3 | h3, h4 | h4⟩)
            · exact .inl (.inl h)
            · exact .inl (.inr ⟨h3, h4⟩)
            · exact .inr ⟨.inl h3, h4⟩
            · have := this h3; omega
            · exact .inr ⟨.inr h3, h4⟩
      · refine ⟨o, by omega, fun x => ?_, ?_⟩
        · rw [show b.drop j = [] from List.drop_eq_nil_of_le (by omega)]
          exact ⟨.inl, fun h => h.resolve_right (fun g => mem_nil x g.2)⟩
        · refine Ev.step (f := fun k => charset_Inter.j1 k a b o (i : Int) (j : Int) false) (fun k => ?_) (Ev.step (f := fun k => charset_Of.f k o) (fun k => ?_) (of_ev o (by omega)))
          · simp only [charset_Inter.l0]
            rw [if_pos (by omega), decide_eq_false (by omega)]
          · simp only [charset_Inter.j1]
            rw [if_neg (by simp)]
            cases charset_Of.f k o <;> rfl
    · refine ⟨o, by omega, fun x => ?_, ?_⟩
      · rw [show a.drop i = [] from List.drop_eq_nil_of_le (by omega)]
        exact ⟨.inl, fun h => h.resolve_right (fun g => mem_nil x g.1)⟩
      · refine Ev.step (f := fun k => charset_Inter.j1 k a b o (i : Int) (j : Int) false) (fun k => ?_) (Ev.step (f := fun k => charset_Of.f k o) (fun k => ?_) (of_ev o (by omega)))
        · simp only [charset_Inter.l0]
          rw [if_neg (by omega)]
        · simp only [charset_Inter.j1]
          rw [if_neg (by simp)]
          cases charset_Of.f k o <;> rfl
theorem inter_ev (a b : List S41) (la : a.length < 17592186044416) (lb : b.length < 17592186044416) : ∃ s, Ev (fun k => charset_Inter.f k a b) s ∧ Can s ∧ ∀ x, mem s x ↔ inU x ∧ mem a x ∧ mem b x := by
  obtain ⟨ca, ma⟩ := madeR_spec a
  obtain ⟨cb, mb⟩ := madeR_spec b
  have na := can_len ca
  have nb := can_len cb
  obtain ⟨F, f1, f2, f3⟩ := inter_l0 (madeR a) (madeR b) ca cb _ 0 0 [] (by omega) (by omega) rfl (by simp only [List.length_nil]; omega)
  obtain ⟨cF, mF⟩ := ofR_spec F
  refine ⟨ofR F, ?_, cF, fun x => ?_⟩
  · unfold charset_Inter.f
    exact Ev.bind (made_ev a la) (Ev.bind (made_ev b lb) f3)
  · rw [mF, f2, List.drop_zero, List.drop_zero, ma, mb]
    constructor
    · rintro ⟨h1, h2 | h2⟩
      · exact absurd h2 (mem_nil x)
      · exact ⟨h1, h2.1.2, h2.2.2⟩
    · rintro ⟨h1, h2, h3⟩
      exact ⟨h1, .inr ⟨⟨h1, h2⟩, h1, h3⟩⟩

/-! ### how many -/
def cnt (p : Int → Bool) : Nat → Int
  | 0 => 0
  | n + 1 => cnt p n + (if p (n : Int) = true then 1 else 0)
theorem cnt_add (p q r s : Int → Bool) (h : ∀ x, 0 ≤ x → (if p x = true then (1 : Int) else 0) + (if q x = true then 1 else 0) = (if r x = true then 1 else 0) + (if s x = true then 1 else 0)) : ∀ n, cnt p n + cnt q n = cnt r n + cnt s n := by
  intro n
  induction n with
  | zero => rfl
  | succ n ih => simp only [cnt]; have := h (n : Int) (by omega); omega
theorem cnt_congr {p q : Int → Bool} (h : ∀ x, 0 ≤ x → p x = q x) : ∀ n, cnt p n = cnt q n := by
  intro n
  induction n with
  | zero => rfl
  | succ n ih => simp only [cnt]; rw [ih, h (n : Int) (by omega)]
theorem cnt_none : ∀ n, cnt (fun _ => false) n = 0 := by
  intro n
  induction n with
  | zero => rfl
  | succ n ih => simp only [cnt]; rw [ih]; rfl
theorem cnt_range (lo hi : Int) (h0 : 0 ≤ lo) : ∀ n : Nat, cnt (fun x => decide (lo ≤ x) && decide (x ≤ hi)) n = max 0 (min (n : Int) (hi + 1) - lo) := by
  intro n
  induction n with
  | zero => simp only [cnt]; omega
  | succ n ih =>
    simp only [cnt, ih, Bool.and_eq_true, decide_eq_true_iff]
    split <;> omega
theorem cnt_can : ∀ (l : List S41), Can l → cnt (inS l) 1114112 = szR l := by
  intro l
  induction l with
  | nil =>
    intro _
    rw [cnt_congr (q := fun _ => false) (fun x _ => inS_nil x), cnt_none]; rfl
  | cons y t ih =>
    intro h
    obtain ⟨h1, h2, h3⟩ := can_cons.1 h
    unfold Ok at h1
    have h4 := cnt_add (inS (y :: t)) (fun _ => false) (fun x => decide (y.f0 ≤ x) && decide (x ≤ y.f1)) (inS t) (fun x hx => by
      by_cases hy : max y.f0 0 ≤ x ∧ x ≤ min y.f1 1114111
      · rw [inS_cons_pos hy, if_pos rfl, if_neg (by simp), if_pos (by simp only [Bool.and_eq_true, decide_eq_true_iff]; omega)]
        have : inS t x = false := by
          rw [Bool.eq_false_iff, ne_eq, inS_iff]
          rintro ⟨_, z, hz, e1, e2⟩
          have := h2 z hz
          omega
        rw [this, if_neg (by simp)]
      · rw [inS_cons_neg hy, if_neg (c := false = true) (by simp), if_neg (c := (decide (y.f0 ≤ x) && decide (x ≤ y.f1)) = true) (by simp only [Bool.and_eq_true, decide_eq_true_iff]; omega)]
        omega) 1114112
    rw [cnt_none, ih h3, cnt_range _ _ (by omega)] at h4
    simp only [szR]
    omega
theorem szR_made (l : List S41) : szR (madeR l) = cnt (inS l) 1114112 := by
  obtain ⟨c, m⟩ := madeR_spec l
  rw [← cnt_can _ c]
  refine cnt_congr (fun x _ => ?_) _
  rw [Bool.eq_iff_iff, inS_iff, inS_iff, m]
  exact ⟨fun h => ⟨h.1, h.2.2⟩, fun h => ⟨h.1, h.1, h.2⟩⟩
theorem cnt_le (p : Int → Bool) : ∀ n, 0 ≤ cnt p n ∧ cnt p n ≤ n := by
  intro n
  induction n with
  | zero => simp only [cnt]; omega
  | succ n ih => simp only [cnt]; split <;> omega
end Go.Proofs.Ytomccgpachmpbaa.Pure
