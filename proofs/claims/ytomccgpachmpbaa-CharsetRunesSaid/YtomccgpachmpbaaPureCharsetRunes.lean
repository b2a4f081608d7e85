/- Set operations hold to the equations of membership, answer canonical sets, and two complements give the set itself. -/
import Derived.Test.YtomccgpachmpbaaPAx14
import Derived.Test.YtomccgpachmpbaaPl3
import Derived.Test.YtomccgpachmpbaaPlk
-- needs: arboristlaw03_CharsetRunes
namespace Go.Proofs.Ytomccgpachmpbaa.Pure
open Go.RowKit Go.Proofs.Ytomccgpachmpbaa.PA Go.Proofs.YtomccgpachmpbaaW.PrintWords Go.Proofs.YtomccgpachmpbaaW.PrintLast Go.Proofs.YtomccgpachmpbaaW.PrintMore
set_option linter.unusedVariables false
theorem CharsetRunes : arboristlaw03_CharsetRunes.Pure := by
  intro a b r ha hb hr
  refine Ev.rounds ?_
  unfold arboristlaw03_CharsetRunes.f
  have early : Ev (fun k => arboristlaw03_CharsetRunes.j0 k a b r true) true := by
    refine Ev.step (fun k => ?_) (Ev.bind knows_ev (Ev.now true))
    simp only [arboristlaw03_CharsetRunes.j0]
    rw [if_pos trivial]
  by_cases h : (a.length : Int) > 40
  · exact Ev.congr (fun k => by rw [if_pos h]) early
  refine Ev.congr (fun k => by rw [if_neg h]) ?_
  by_cases h2 : (b.length : Int) > 40
  · rw [decide_eq_true h2]; exact early
  rw [decide_eq_false h2]
  have la : a.length < 17592186044416 := by omega
  have lb : b.length < 17592186044416 := by omega
  obtain ⟨u, u1, u2, u3⟩ := union_ev [a, b] (by simp) (by simp only [List.flatten_cons, List.flatten_nil, List.length_append, List.length_nil]; omega)
  obtain ⟨i, i1, i2, i3⟩ := inter_ev a b la lb
  obtain ⟨m, m1, m2, m3⟩ := minus_ev a b la lb
  obtain ⟨n, n1, n2, n3⟩ := not_ev a la
  have lu := can_len u2
  have li := can_len i2
  have lm := can_len m2
  have ln := can_len n2
  have hasU : ∀ x, inS u x = (inS a x || inS b x) := fun x => by
    rw [Bool.eq_iff_iff, Bool.or_eq_true, inS_iff, inS_iff, inS_iff, u3, memA_cons, memA_cons]
    have := memA_nil x
    constructor
    · rintro ⟨g, _, g1 | g1 | g1⟩
      · exact .inl ⟨g, g1⟩
      · exact .inr ⟨g, g1⟩
      · exact absurd g1 this
    · rintro (⟨g, g1⟩ | ⟨g, g1⟩)
      · exact ⟨g, g, .inl g1⟩
      · exact ⟨g, g, .inr (.inl g1)⟩
  have hasI : ∀ x, inS i x = (inS a x && inS b x) := fun x => by
    rw [Bool.eq_iff_iff, Bool.and_eq_true, inS_iff, inS_iff, inS_iff, i3]
    exact ⟨fun g => ⟨⟨g.1, g.2.2.1⟩, g.1, g.2.2.2⟩, fun g => ⟨g.1.1, g.1.1, g.1.2, g.2.2⟩⟩
  have hasM : ∀ x, inS m x = (inS a x && !inS b x) := fun x => by
    rw [Bool.eq_iff_iff, Bool.and_eq_true, Bool.not_eq_true', Bool.eq_false_iff, ne_eq, inS_iff, inS_iff, inS_iff, m3]
    exact ⟨fun g => ⟨⟨g.1, g.2.2.1⟩, fun e => g.2.2.2 e.2⟩, fun g => ⟨g.1.1, g.1.1, g.1.2, fun e => g.2 ⟨g.1.1, e⟩⟩⟩
  have hasN : ∀ x, inS n x = (decide (0 ≤ x) && decide (x ≤ 1114111) && !inS a x) := fun x => by
    rw [Bool.eq_iff_iff, Bool.and_eq_true, Bool.and_eq_true, Bool.not_eq_true', Bool.eq_false_iff, ne_eq, inS_iff, inS_iff, n3, decide_eq_true_iff, decide_eq_true_iff]
    exact ⟨fun g => ⟨⟨g.1.1, g.1.2⟩, fun e => g.2.2 e.2⟩, fun g => ⟨g.1, g.1, fun e => g.2 ⟨g.1, e⟩⟩⟩
  -- the sizes
  have su := size_ev u (by omega)
  have si := size_ev i (by omega)
  have sa := size_ev a la
  have sb := size_ev b lb
  rw [szR_made] at su si sa sb
  have hsz := cnt_add (inS u) (inS i) (inS a) (inS b) (fun x _ => by rw [hasU, hasI]; cases inS a x <;> cases inS b x <;> rfl) 1114112
  -- the equalities
  obtain ⟨nn, p1, p2, p3⟩ := not_ev n (by omega)
  obtain ⟨ua, q1, q2, q3⟩ := union_ev [a] (by simp) (by simp only [List.flatten_cons, List.flatten_nil, List.length_append, List.length_nil]; omega)
  obtain rfl : nn = ua := can_ext p2 q2 (fun x => by
    rw [p3, q3, n3, memA_cons]
    have := memA_nil x
    constructor
    · rintro ⟨g1, g2⟩
      exact ⟨g1, .inl (Classical.byContradiction fun e => g2 ⟨g1, e⟩)⟩
    · rintro ⟨g1, g2 | g2⟩
      · exact ⟨g1, fun e => e.2 g2⟩
      · exact absurd g2 this)
  obtain ⟨nb, r1, r2, r3⟩ := not_ev b lb
  have lnb := can_len r2
  obtain ⟨m', s1, s2, s3⟩ := inter_ev a nb la (by omega)
  obtain rfl : m = m' := can_ext m2 s2 (fun x => by
    rw [m3, s3, r3]
    exact ⟨fun g => ⟨g.1, g.2.1, g.1, g.2.2⟩, fun g => ⟨g.1, g.2.1, g.2.2.2⟩⟩)
  obtain ⟨u', t1, t2, t3⟩ := union_ev [b, a] (by simp) (by simp only [List.flatten_cons, List.flatten_nil, List.length_append, List.length_nil]; omega)
  obtain rfl : u = u' := can_ext u2 t2 (fun x => by
    rw [u3, t3, memA_cons, memA_cons, memA_cons, memA_cons]
    constructor
    · rintro ⟨g, g1 | g1 | g1⟩
      · exact ⟨g, .inr (.inl g1)⟩
      · exact ⟨g, .inl g1⟩
      · exact ⟨g, .inr (.inr g1)⟩
    · rintro ⟨g, g1 | g1 | g1⟩
      · exact ⟨g, .inr (.inl g1)⟩
      · exact ⟨g, .inl g1⟩
      · exact ⟨g, .inr (.inr g1)⟩)
  have j3 : Ev (fun k => arboristlaw03_CharsetRunes.j3 k a b u m n false) true := by
    refine Ev_shift ?_
    simp only [arboristlaw03_CharsetRunes.j3, Bool.false_eq_true, if_false]
    refine Ev.bind p1 (Ev.bind q1 (Ev.bind (same_ev nn nn rfl (by have := can_len p2; omega)) (Ev.congr (fun k => if_pos rfl) ?_)))
    refine Ev.bind r1 (Ev.bind s1 (Ev.bind (same_ev m m rfl (by omega)) (Ev.congr (fun k => if_pos rfl) ?_)))
    refine Ev.bind t1 (Ev.bind (same_ev u u rfl (by omega)) (Ev.congr (fun k => if_pos rfl) ?_))
    exact Ev.bind knows_ev (Ev.now true)
  have j2 : Ev (fun k => arboristlaw03_CharsetRunes.j2 k a b u i m n false) true := by
    refine Ev_shift ?_
    simp only [arboristlaw03_CharsetRunes.j2, Bool.false_eq_true, if_false]
    refine Ev.bind (right_ev u (by omega)) (Ev.congr (fun k => if_pos ((chk_iff _).2 u2)) ?_)
    refine Ev.bind (right_ev i (by omega)) (Ev.congr (fun k => if_pos ((chk_iff _).2 i2)) ?_)
    refine Ev.bind (right_ev m (by omega)) (Ev.congr (fun k => if_pos ((chk_iff _).2 m2)) ?_)
    refine Ev.bind (right_ev n (by omega)) (Ev.congr (fun k => if_pos ((chk_iff _).2 n2)) ?_)
    refine Ev.bind su (Ev.bind si (Ev.bind sa (Ev.bind sb ?_)))
    rw [hsz, bne_self_eq_false]
    exact j3
  have hj1 : Ev (fun k => arboristlaw03_CharsetRunes.j1 k a b r (decide (0 ≤ r) && decide (r ≤ 1114111))) true := by
    refine Ev_shift ?_
    simp only [arboristlaw03_CharsetRunes.j1, has_f a r la, has_f b r lb, Option.bind_some]
    refine Ev.bind u1 (Ev.bind i1 (Ev.bind m1 (Ev.bind n1 ?_)))
    · simp only [has_f u r (by omega), has_f i r (by omega), has_f m r (by omega), has_f n r (by omega), Option.bind_some, hasU, hasI, hasM, hasN]
      generalize hA : inS a r = A
      generalize hB : inS b r = B
      have hin : A = true → (decide (0 ≤ r) && decide (r ≤ 1114111)) = true := by
        rintro rfl
        have := ((inS_iff _ _).1 hA).1
        unfold inU at this
        simp only [Bool.and_eq_true, decide_eq_true_iff]
        exact this
      generalize (decide (0 ≤ r) && decide (r ≤ 1114111)) = I at hin ⊢
      cases A <;> cases B <;> cases I <;> first | exact j2 | exact nomatch hin rfl
  refine Ev.step (f := fun k => arboristlaw03_CharsetRunes.j1 k a b r (decide (0 ≤ r) && decide (r ≤ 1114111))) (fun k => ?_) hj1
  simp only [arboristlaw03_CharsetRunes.j0]
  rw [if_neg (by simp)]
  by_cases h0 : r ≥ 0
  · rw [if_pos h0, decide_eq_true (show 0 ≤ r from h0), Bool.true_and]
  · rw [if_neg h0, decide_eq_false (show ¬ 0 ≤ r from h0), Bool.false_and]
end Go.Proofs.Ytomccgpachmpbaa.Pure
