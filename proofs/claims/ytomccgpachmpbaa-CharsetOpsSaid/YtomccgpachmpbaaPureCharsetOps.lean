/- Union, Inter, Minus and Not answer as the reference does, of any two sets. -/
import Derived.Test.YtomccgpachmpbaaPAx13
import Derived.Test.YtomccgpachmpbaaPl3
import Derived.Test.YtomccgpachmpbaaPlk
-- needs: arboristlaw03_CharsetOps
namespace Go.Proofs.Ytomccgpachmpbaa.Pure
open Go.RowKit Go.Proofs.Ytomccgpachmpbaa.PA Go.Proofs.YtomccgpachmpbaaW.PrintWords Go.Proofs.YtomccgpachmpbaaW.PrintLast Go.Proofs.YtomccgpachmpbaaW.PrintMore
set_option linter.unusedVariables false
theorem CharsetOps : arboristlaw03_CharsetOps.Pure := by
  intro a b ha hb
  refine Ev.rounds ?_
  unfold arboristlaw03_CharsetOps.f
  have early : Ev (fun k => arboristlaw03_CharsetOps.j0 k a b true) true := by
    refine Ev.step (fun k => ?_) (Ev.bind knows_ev (Ev.now true))
    simp only [arboristlaw03_CharsetOps.j0]
    rw [if_pos trivial]
  by_cases h : (a.length : Int) > 40
  · exact Ev.congr (fun k => by rw [if_pos h]) early
  refine Ev.congr (fun k => by rw [if_neg h]) ?_
  by_cases h2 : (b.length : Int) > 40
  · rw [decide_eq_true h2]; exact early
  rw [decide_eq_false h2]
  have la : a.length < 17592186044416 := by omega
  have lb : b.length < 17592186044416 := by omega
  obtain ⟨u, u1, u2, u3⟩ := union_ev [a, b] (by simp) (by simp only [List.flatten_cons, List.flatten_nil, List.length_append, List.length_nil]; omega)
  obtain ⟨u', v1, v2, v3⟩ := runion_ev [a, b] (by simp) (fun l hl => by
    rcases List.mem_cons.1 hl with rfl | hl
    · exact la
    · rw [List.mem_singleton.1 hl]; exact lb)
  obtain rfl : u = u' := can_ext u2 v2 (fun x => by rw [u3, v3])
  obtain ⟨i, i1, i2, i3⟩ := inter_ev a b la lb
  obtain ⟨i', j1, j2, j3⟩ := rinter_ev a b la lb
  obtain rfl : i = i' := can_ext i2 j2 (fun x => by rw [i3, j3])
  obtain ⟨m, m1, m2, m3⟩ := minus_ev a b la lb
  obtain ⟨m', n1, n2, n3⟩ := rminus_ev a b la lb
  obtain rfl : m = m' := can_ext m2 n2 (fun x => by rw [m3, n3])
  obtain ⟨c, c1, c2, c3⟩ := not_ev a la
  obtain ⟨c', d1, d2, d3⟩ := rnot_ev a la
  obtain rfl : c = c' := can_ext c2 d2 (fun x => by rw [c3, d3])
  refine Ev_shift ?_
  simp only [arboristlaw03_CharsetOps.j0, Bool.false_eq_true, if_false]
  refine Ev.bind u1 (Ev.bind v1 (Ev.bind (same_ev u u rfl (by have := can_len u2; omega)) (Ev.congr (fun k => if_pos rfl) ?_)))
  refine Ev.bind i1 (Ev.bind j1 (Ev.bind (same_ev i i rfl (by have := can_len i2; omega)) (Ev.congr (fun k => if_pos rfl) ?_)))
  refine Ev.bind m1 (Ev.bind n1 (Ev.bind (same_ev m m rfl (by have := can_len m2; omega)) (Ev.congr (fun k => if_pos rfl) ?_)))
  refine Ev.bind c1 (Ev.bind d1 (Ev.bind (same_ev c c rfl (by have := can_len c2; omega)) (Ev.congr (fun k => if_pos rfl) ?_)))
  exact Ev.bind knows_ev (Ev.now true)
end Go.Proofs.Ytomccgpachmpbaa.Pure
