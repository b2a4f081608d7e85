/- Right, Size and Has answer as the reference does, of any set and rune. -/
import Derived.Test.YtomccgpachmpbaaPAx11
import Derived.Test.YtomccgpachmpbaaPl3
import Derived.Test.YtomccgpachmpbaaPlk
-- needs: arboristlaw03_CharsetTells arboristref03_Right arboristref03_Size
namespace Go.Proofs.Ytomccgpachmpbaa.Pure
open Go.RowKit Go.Proofs.Ytomccgpachmpbaa.PA Go.Proofs.YtomccgpachmpbaaW.PrintWords Go.Proofs.YtomccgpachmpbaaW.PrintLast Go.Proofs.YtomccgpachmpbaaW.PrintMore
set_option linter.unusedVariables false
theorem rright_l1 (l : List S41) (hl : l.length < 17592186044416) : ∀ (d i : Nat) (h0 : 0 < i) (hi : i + d = l.length) (hok : Ok (l[i - 1]'(by omega))),
    Ev (fun k => arboristref03_Right.l0 k l (i : Int)) (chk1 (l[i - 1]'(by omega)) (l.drop i)) := by
  intro d
  induction d with
  | zero =>
    intro i h0 hi hok
    rw [List.drop_eq_nil_of_le (by omega)]
    refine Ev.step (f := fun _ => some true) (fun k => ?_) (Ev.now _)
    simp only [arboristref03_Right.l0]
    rw [if_neg (by omega)]
  | succ d ih =>
    intro i h0 hi hok
    have hlt : i < l.length := by omega
    rw [List.drop_eq_getElem_cons hlt]
    unfold chk1
    have hp := wrap_pred h0 (show i < 4611686018427387904 by omega)
    by_cases hy : Ok l[i]
    · rw [if_pos hy]
      have hy' := hy
      unfold Ok at hy'
      by_cases hg : l[i - 1].f1 + 1 < l[i].f0
      · rw [if_pos hg]
        have h := ih (i + 1) (by omega) (by omega) hy
        refine Ev.step (f := fun k => arboristref03_Right.l0 k l ((i + 1 : Nat) : Int)) (fun k => ?_) h
        simp only [arboristref03_Right.l0]
        unfold Ok at hok
        rw [if_pos (by omega), if_pos (by omega), rd_at l i hlt, if_neg (by omega), if_neg (by omega), if_neg (by omega), if_pos (by omega), hp, if_pos (by omega), if_pos (by omega), rd_at l (i - 1) (by omega), wrap32_of (by omega) (by omega), if_neg (by omega), wrap_succ hlt (by omega)]
      · rw [if_neg hg]
        refine Ev.step (f := fun _ => some false) (fun k => ?_) (Ev.now _)
        simp only [arboristref03_Right.l0]
        unfold Ok at hok
        rw [if_pos (by omega), if_pos (by omega), rd_at l i hlt, if_neg (by omega), if_neg (by omega), if_neg (by omega), if_pos (by omega), hp, if_pos (by omega), if_pos (by omega), rd_at l (i - 1) (by omega), wrap32_of (by omega) (by omega), if_pos (by omega)]
    · rw [if_neg hy]
      refine Ev.step (f := fun _ => some false) (fun k => ?_) (Ev.now _)
      simp only [arboristref03_Right.l0]
      rw [if_pos (by omega), if_pos (by omega), rd_at l i hlt]
      by_cases h1 : l[i].f0 < 0
      · rw [if_pos h1]
      · rw [if_neg h1]
        by_cases h2 : l[i].f0 > l[i].f1
        · rw [if_pos h2]
        · rw [if_neg h2, if_pos (by unfold Ok at hy; omega)]
theorem rright_ev (l : List S41) (hl : l.length < 17592186044416) : Ev (fun k => arboristref03_Right.f k l) (chk l) := by
  unfold arboristref03_Right.f
  cases l with
  | nil =>
    refine Ev.step (f := fun _ => some true) (fun k => ?_) (Ev.now _)
    simp only [arboristref03_Right.l0]
    rw [if_neg (by simp)]
  | cons y t =>
    have e : rd_T41 (y :: t) 0 = y := rfl
    rw [show chk (y :: t) = if Ok y then chk1 y t else false from rfl]
    by_cases hy : Ok y
    · rw [if_pos hy]
      have h := rright_l1 (y :: t) hl t.length 1 (by omega) (by rw [List.length_cons]; omega) hy
      refine Ev.step (f := fun k => arboristref03_Right.l0 k (y :: t) ((1 : Nat) : Int)) (fun k => ?_) h
      simp only [arboristref03_Right.l0]
      unfold Ok at hy
      rw [if_pos (by rw [List.length_cons]; omega), if_pos (by omega), e, if_neg (by omega), if_neg (by omega), if_neg (by omega), if_neg (by omega), show wrap64 (0 + 1) = ((1 : Nat) : Int) by unfold wrap64; omega]
    · rw [if_neg hy]
      refine Ev.step (f := fun _ => some false) (fun k => ?_) (Ev.now _)
      simp only [arboristref03_Right.l0]
      rw [if_pos (by rw [List.length_cons]; omega), if_pos (by omega), e]
      by_cases h1 : y.f0 < 0
      · rw [if_pos h1]
      · rw [if_neg h1]
        by_cases h2 : y.f0 > y.f1
        · rw [if_pos h2]
        · rw [if_neg h2, if_pos (by unfold Ok at hy; omega)]
theorem rsize_l0 (l : List S41) (hl : l.length ≤ 1114112) (hok : ∀ y ∈ l, Ok y) : ∀ (d i : Nat) (n : Int), i + d = l.length → 0 ≤ n → n ≤ 1114112 * i → Ev (fun k => arboristref03_Size.l0 k n l (i : Int)) (n + szR (l.drop i)) := by
  intro d
  induction d with
  | zero =>
    intro i n hi _ hn
    rw [List.drop_eq_nil_of_le (by omega)]
    refine Ev.step (f := fun _ => some n) (fun k => ?_) (by simp only [szR, Int.add_zero]; exact Ev.now _)
    simp only [arboristref03_Size.l0]
    rw [if_neg (by omega)]
  | succ d ih =>
    intro i n hi hn0 hn
    have hlt : i < l.length := by omega
    have hy := hok l[i] (List.getElem_mem _)
    unfold Ok at hy
    rw [List.drop_eq_getElem_cons hlt]
    simp only [szR]
    have h := ih (i + 1) (n + (l[i].f1 - l[i].f0 + 1)) (by omega) (by omega) (by omega)
    rw [Int.add_assoc] at h
    refine Ev.step (f := fun k => arboristref03_Size.l0 k (n + (l[i].f1 - l[i].f0 + 1)) l ((i + 1 : Nat) : Int)) (fun k => ?_) h
    simp only [arboristref03_Size.l0]
    rw [if_pos (by omega), if_pos (by omega), rd_at l i hlt, wrap32_of (by omega) (by omega), wrap64_of (x := l[i].f1 - l[i].f0) (by omega) (by omega), wrap64_of (x := l[i].f1 - l[i].f0 + 1) (by omega) (by omega), wrap64_of (x := n + (l[i].f1 - l[i].f0 + 1)) (by omega) (by omega), wrap_succ hlt (by omega)]
theorem rsize_ev (l : List S41) (hl : l.length < 17592186044416) : Ev (fun k => arboristref03_Size.f k l) (szR (madeR l)) := by
  obtain ⟨s, s1, s2, s3⟩ := rof_ev l hl
  obtain ⟨c, m⟩ := madeR_spec l
  obtain rfl : madeR l = s := can_ext c s2 (fun x => by rw [m, s3])
  unfold arboristref03_Size.f
  refine Ev.bind s1 ?_
  have := rsize_l0 (madeR l) (can_len c) c.1 (madeR l).length 0 0 (by omega) (by omega) (by omega)
  rw [List.drop_zero, Int.zero_add] at this
  exact this
theorem CharsetTells : arboristlaw03_CharsetTells.Pure := by
  intro l r hl hr
  refine Ev.rounds ?_
  unfold arboristlaw03_CharsetTells.f
  by_cases h : (l.length : Int) > 60
  · exact Ev.congr (fun k => by rw [if_pos h]) (Ev.bind knows_ev (Ev.now true))
  · refine Ev.congr (fun k => by rw [if_neg h]) (Ev.bind (right_ev l (by omega)) (Ev.bind (rright_ev l (by omega)) ?_))
    refine Ev.congr (fun k => by rw [if_pos (by simp)]) (Ev.bind (size_ev l (by omega)) (Ev.bind (rsize_ev l (by omega)) ?_))
    refine Ev.congr (fun k => by rw [if_pos rfl, has_f l r (by omega), Option.bind_some]) (Ev.bind (rhas_ev l (by omega) r) ?_)
    exact Ev.congr (fun k => by rw [if_pos (by simp)]) (Ev.bind knows_ev (Ev.now true))
end Go.Proofs.Ytomccgpachmpbaa.Pure
