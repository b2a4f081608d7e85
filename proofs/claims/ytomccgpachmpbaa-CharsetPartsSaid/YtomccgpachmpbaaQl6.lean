/- Parts: its starts, its groups of segments, its answer. -/
import Derived.Test.YtomccgpachmpbaaPBx5
import Derived.Test.YtomccgpachmpbaaPBx6
import Derived.Test.YtomccgpachmpbaaQl4
-- needs: charset_Parts slices_order2Ordered_rune
namespace Go.Proofs.Ytomccgpachmpbaa.Pure
open Go.RowKit Go.Proofs.Ytomccgpachmpbaa.PB Go.Proofs.YtomccgpachmpbaaW.PrintWords Go.Proofs.YtomccgpachmpbaaW.PrintLast Go.Proofs.YtomccgpachmpbaaW.PrintMore
set_option linter.unusedVariables false

/-! ### sorted, each once -/
theorem compact_at (d : Array Int) (hd : ∀ i j, i ≤ j → j < d.size → d[i]! ≤ d[j]!) : ∀ m, m ≤ d.size →
    (Lib.compactUpTo d m).Pairwise (· < ·) ∧ (∀ x, x ∈ Lib.compactUpTo d m ↔ ∃ j, j < m ∧ d[j]! = x) := by
  intro m
  induction m with
  | zero => intro _; exact ⟨by simp [Lib.compactUpTo], fun x => by simp [Lib.compactUpTo]⟩
  | succ m ih =>
    intro hm
    obtain ⟨h1, h2⟩ := ih (by omega)
    rw [Lib.compactUpTo_succ]
    by_cases hk : Lib.keeps d m = true
    · rw [if_pos hk]
      have hk2 : m = 0 ∨ d[m]! ≠ d[m - 1]! := by simpa [Lib.keeps] using hk
      refine ⟨?_, fun x => ?_⟩
      · rw [List.pairwise_append]
        refine ⟨h1, List.pairwise_singleton _ _, fun x hx y hy => ?_⟩
        rw [List.mem_singleton.1 hy]
        obtain ⟨j, hj, rfl⟩ := (h2 x).1 hx
        have h3 := hd j (m - 1) (by omega) (by omega)
        have h4 := hd (m - 1) m (by omega) (by omega)
        rcases hk2 with h | h <;> omega
      · rw [List.mem_append, h2, List.mem_singleton]
        constructor
        · rintro (⟨j, hj, h⟩ | h)
          · exact ⟨j, by omega, h⟩
          · exact ⟨m, by omega, h.symm⟩
        · rintro ⟨j, hj, h⟩
          by_cases hjm : j = m
          · subst hjm; exact .inr h.symm
          · exact .inl ⟨j, by omega, h⟩
    · rw [if_neg hk, List.append_nil]
      have hk2 : m ≠ 0 ∧ d[m]! = d[m - 1]! := by
        simp only [Lib.keeps, Bool.not_eq_true, decide_eq_false_iff_not] at hk
        exact ⟨fun h => hk (.inl h), Classical.byContradiction fun h => hk (.inr h)⟩
      refine ⟨h1, fun x => ?_⟩
      rw [h2]
      constructor
      · rintro ⟨j, hj, h⟩; exact ⟨j, by omega, h⟩
      · rintro ⟨j, hj, h⟩
        by_cases hjm : j = m
        · subst hjm; exact ⟨j - 1, by omega, hk2.2 ▸ h⟩
        · exact ⟨j, by omega, h⟩
theorem compact_spec (s : List Int) (h : s.Pairwise (fun a b : Int => a ≤ b)) : (Lib.compactUpTo s.toArray s.length).Pairwise (· < ·) ∧ ∀ x, x ∈ Lib.compactUpTo s.toArray s.length ↔ x ∈ s := by
  have hd : ∀ i j, i ≤ j → j < s.toArray.size → s.toArray[i]! ≤ s.toArray[j]! := by
    intro i j hij hj
    have hj' : j < s.length := by simpa using hj
    rw [getElem!_pos s.toArray i (by simp; omega), getElem!_pos s.toArray j (by simp; omega)]
    simp only [List.getElem_toArray]
    by_cases he : i = j
    · subst he; exact Int.le_refl _
    · exact List.pairwise_iff_getElem.1 h i j (by omega) hj' (by omega)
  obtain ⟨h1, h2⟩ := compact_at s.toArray hd s.length (by simp)
  refine ⟨h1, fun x => ?_⟩
  rw [h2]
  constructor
  · rintro ⟨j, hj, rfl⟩
    rw [getElem!_pos s.toArray j (by simpa using hj)]
    simp only [List.getElem_toArray]
    exact List.getElem_mem _
  · intro hx
    obtain ⟨j, hj, rfl⟩ := List.mem_iff_getElem.1 hx
    refine ⟨j, hj, ?_⟩
    rw [getElem!_pos s.toArray j (by simpa using hj)]
    simp only [List.getElem_toArray]
def startsR (l : List (List S41)) : List Int := Lib.compactUpTo (sortI (0 :: frA l)).toArray (sortI (0 :: frA l)).length
theorem startsR_spec (l : List (List S41)) : Good (startsR l) ∧ ∀ s ∈ l, ∀ y ∈ madeR s, cov (startsR l) y := by
  obtain ⟨h1, h2⟩ := compact_spec (sortI (0 :: frA l)) (sortI_pair _)
  have hm : ∀ x, x ∈ startsR l ↔ x = 0 ∨ x ∈ frA l := fun x => by
    unfold startsR
    rw [h2, (sortI_perm _).mem_iff, List.mem_cons]
  refine ⟨⟨h1, fun x hx => ?_, (hm 0).2 (.inl rfl)⟩, fun s hs => ?_⟩
  · rcases (hm x).1 hx with rfl | hx
    · omega
    · exact frA_rng l x hx
  · refine fr_cov (madeR_spec s).1.1 (fun x hx => (hm x).2 (.inr ?_))
    clear hm h1 h2
    induction l with
    | nil => exact absurd hs (by simp)
    | cons t r ih =>
      simp only [frA, List.mem_append]
      rcases List.mem_cons.1 hs with rfl | hs
      · exact .inl hx
      · exact .inr (ih hs)
theorem inS_made (s : List S41) (x : Int) : inS (madeR s) x = inS s x := by
  rw [Bool.eq_iff_iff, inS_iff, inS_iff, (madeR_spec s).2]
  exact ⟨fun h => ⟨h.1, h.2.2⟩, fun h => ⟨h.1, h.1, h.2⟩⟩
theorem key_const {l : List (List S41)} {e : List Int} (he : Good e) (hc : ∀ s ∈ l, ∀ y ∈ madeR s, cov e y) {i : Nat} (hi : i < e.length) {x : Int} (h0 : nx e i ≤ x) (h1 : x < nx e (i + 1)) : keyB l x = keyB l (nx e i) := by
  unfold keyB
  refine List.map_congr_left (fun s hs => ?_)
  obtain ⟨n1, n2, n3⟩ := he.nx_lt hi
  rw [← inS_made s x, ← inS_made s (nx e i)]
  exact seg_const (hc s hs) n2 h0 (by omega) (fun z hz => by rcases he.nx_sep hi z hz with h | h <;> omega)

/-! ### groups -/
structure Inv (l : List (List S41)) (e : List Int) (i : Nat) (G : List (List Bool × List S41)) : Prop where
  nodup : (G.map (·.1)).Nodup
  mem : ∀ g ∈ G, ∀ x, mem g.2 x ↔ 0 ≤ x ∧ x < nx e i ∧ keyB l x = g.1
  all : ∀ x, 0 ≤ x → x < nx e i → keyB l x ∈ G.map (·.1)
  some : ∀ g ∈ G, ∃ x, Pure.mem g.2 x
  len : ∀ g ∈ G, g.2.length ≤ i
  glen : G.length ≤ i
  ord : G.Pairwise (fun g h => ∃ x, Pure.mem g.2 x ∧ ∀ y, Pure.mem h.2 y → x < y)
theorem Inv.found {l : List (List S41)} {e : List Int} {i : Nat} {A B : List (List Bool × List S41)} {b : List Bool} {p : List S41} {s : S41} (h : Inv l e i (A ++ (b, p) :: B)) (hn : nx e i ≤ nx e (i + 1)) (h0 : 0 ≤ nx e i) (hs0 : s.f0 = nx e i) (hs1 : s.f1 + 1 = nx e (i + 1))
    (hc : ∀ x, nx e i ≤ x → x < nx e (i + 1) → keyB l x = b) : Inv l e (i + 1) (A ++ (b, p ++ [s]) :: B) := by
  have hf : (A ++ (b, p ++ [s]) :: B).map (·.1) = (A ++ (b, p) :: B).map (·.1) := by simp
  have hne : ∀ g, g ∈ A ∨ g ∈ B → g.1 ≠ b := by
    intro g hg hb
    have hd := h.nodup
    rw [List.map_append, List.map_cons, List.nodup_append] at hd
    rcases hg with hg | hg
    · exact hd.2.2 g.1 (List.mem_map.2 ⟨g, hg, rfl⟩) b (by simp) hb
    · exact (List.nodup_cons.1 hd.2.1).1 (List.mem_map.2 ⟨g, hg, hb⟩)
  have hms : ∀ x, Pure.mem (p ++ [s]) x ↔ 0 ≤ x ∧ x < nx e (i + 1) ∧ keyB l x = b := fun x => by
    rw [mem_append, mem_one, h.mem (b, p) (by simp) x]
    simp only
    constructor
    · rintro (⟨a1, a2, a3⟩ | ⟨a1, a2⟩)
      · exact ⟨a1, by omega, a3⟩
      · exact ⟨by omega, by omega, hc x (by omega) (by omega)⟩
    · rintro ⟨a1, a2, a3⟩
      by_cases hx : x < nx e i
      · exact .inl ⟨a1, hx, a3⟩
      · exact .inr (by omega)
  have hmo : ∀ g, g ∈ A ∨ g ∈ B → ∀ x, Pure.mem g.2 x ↔ 0 ≤ x ∧ x < nx e (i + 1) ∧ keyB l x = g.1 := fun g hg x => by
    rw [h.mem g (by rcases hg with hg | hg <;> simp [hg]) x]
    constructor
    · rintro ⟨a1, a2, a3⟩; exact ⟨a1, by omega, a3⟩
    · rintro ⟨a1, a2, a3⟩
      by_cases hx : x < nx e i
      · exact ⟨a1, hx, a3⟩
      · exact absurd (a3.symm.trans (hc x (by omega) a2)) (hne g hg)
  have hcase : ∀ g, g ∈ A ++ (b, p ++ [s]) :: B → (g ∈ A ∨ g ∈ B) ∨ g = (b, p ++ [s]) := fun g hg => by
    rcases List.mem_append.1 hg with hg | hg
    · exact .inl (.inl hg)
    · rcases List.mem_cons.1 hg with hg | hg
      · exact .inr hg
      · exact .inl (.inr hg)
  have hlow : ∀ g, g ∈ A ++ (b, p) :: B → ∀ x, Pure.mem g.2 x → x < nx e i := fun g hg x hx => ((h.mem g hg x).1 hx).2.1
  refine ⟨hf ▸ h.nodup, fun g hg x => ?_, fun x a1 a2 => ?_, fun g hg => ?_, fun g hg => ?_, ?_, ?_⟩
  · rcases hcase g hg with hg | rfl
    · exact hmo g hg x
    · exact hms x
  · rw [hf]
    by_cases hx : x < nx e i
    · exact h.all x a1 hx
    · rw [hc x (by omega) a2]; simp
  · rcases hcase g hg with hg | rfl
    · exact h.some g (by rcases hg with hg | hg <;> simp [hg])
    · obtain ⟨x, hx⟩ := h.some (b, p) (by simp)
      exact ⟨x, mem_append.2 (.inl hx)⟩
  · rcases hcase g hg with hg | rfl
    · exact Nat.le_succ_of_le (h.len g (by rcases hg with hg | hg <;> simp [hg]))
    · have := h.len (b, p) (by simp)
      simp only [List.length_append, List.length_singleton] at this ⊢
      omega
  · have := h.glen
    simp only [List.length_append, List.length_cons] at this ⊢
    omega
  · have ho := h.ord
    rw [List.pairwise_append, List.pairwise_cons] at ho ⊢
    refine ⟨ho.1, ⟨fun g hg => ?_, ho.2.1.2⟩, fun g hg g' hg' => ?_⟩
    · obtain ⟨x, hx, hy⟩ := ho.2.1.1 g hg
      exact ⟨x, mem_append.2 (.inl hx), hy⟩
    · rcases List.mem_cons.1 hg' with rfl | hg'
      · obtain ⟨x, hx, hy⟩ := ho.2.2 g hg (b, p) (by simp)
        refine ⟨x, hx, fun y hm => ?_⟩
        rcases mem_append.1 hm with hm | hm
        · exact hy y hm
        · have := hlow g (by simp [hg]) x hx
          rw [mem_one] at hm
          omega
      · exact ho.2.2 g hg g' (by simp [hg'])
theorem Inv.new {l : List (List S41)} {e : List Int} {i : Nat} {G : List (List Bool × List S41)} {b : List Bool} {s : S41} (h : Inv l e i G) (hb : b ∉ G.map (·.1)) (hn : nx e i < nx e (i + 1)) (h0 : 0 ≤ nx e i) (hs0 : s.f0 = nx e i) (hs1 : s.f1 + 1 = nx e (i + 1))
    (hc : ∀ x, nx e i ≤ x → x < nx e (i + 1) → keyB l x = b) : Inv l e (i + 1) (G ++ [(b, [s])]) := by
  have hcase : ∀ g, g ∈ G ++ [(b, [s])] → g ∈ G ∨ g = (b, [s]) := fun g hg => by
    rcases List.mem_append.1 hg with hg | hg
    · exact .inl hg
    · exact .inr (List.mem_singleton.1 hg)
  refine ⟨?_, fun g hg x => ?_, fun x a1 a2 => ?_, fun g hg => ?_, fun g hg => ?_, ?_, ?_⟩
  · rw [List.map_append, List.nodup_append]
    refine ⟨h.nodup, by simp, fun a ha c hc' => ?_⟩
    rw [show c = b by simpa using hc']
    rintro rfl
    exact hb ha
  · rcases hcase g hg with hg | rfl
    · rw [h.mem g hg x]
      constructor
      · rintro ⟨a1, a2, a3⟩; exact ⟨a1, by omega, a3⟩
      · rintro ⟨a1, a2, a3⟩
        by_cases hx : x < nx e i
        · exact ⟨a1, hx, a3⟩
        · exact absurd (List.mem_map.2 ⟨g, hg, a3.symm.trans (hc x (by omega) a2)⟩) hb
    · rw [mem_one]
      simp only
      constructor
      · rintro ⟨a1, a2⟩; exact ⟨by omega, by omega, hc x (by omega) (by omega)⟩
      · rintro ⟨a1, a2, a3⟩
        by_cases hx : x < nx e i
        · exact absurd (a3 ▸ h.all x a1 hx) hb
        · omega
  · rw [List.map_append, List.mem_append]
    by_cases hx : x < nx e i
    · exact .inl (h.all x a1 hx)
    · rw [hc x (by omega) a2]; exact .inr (by simp)
  · rcases hcase g hg with hg | rfl
    · exact h.some g hg
    · exact ⟨s.f0, mem_one.2 ⟨Int.le_refl _, by omega⟩⟩
  · rcases hcase g hg with hg | rfl
    · exact Nat.le_succ_of_le (h.len g hg)
    · simp
  · have := h.glen
    simp only [List.length_append, List.length_singleton]
    omega
  · rw [List.pairwise_append]
    refine ⟨h.ord, List.pairwise_singleton _ _, fun g hg g' hg' => ?_⟩
    rw [List.mem_singleton.1 hg']
    obtain ⟨x, hx⟩ := h.some g hg
    refine ⟨x, hx, fun y hy => ?_⟩
    rw [mem_one] at hy
    have := ((h.mem g hg x).1 hx).2.1
    omega
end Go.Proofs.Ytomccgpachmpbaa.Pure
