/- The reference's Parts, and Parts: they answer alike. -/
import Derived.Test.YtomccgpachmpbaaPBx7
import Derived.Test.YtomccgpachmpbaaPBx8
import Derived.Test.YtomccgpachmpbaaPBx9
import Derived.Test.YtomccgpachmpbaaQl7
-- needs: arboristref03_alike arboristref03_none arboristref03_join arboristref03_Parts arboristref03_ends arboristref03_Has
namespace Go.Proofs.Ytomccgpachmpbaa.Pure
open Go.RowKit Go.Proofs.Ytomccgpachmpbaa.PB Go.Proofs.YtomccgpachmpbaaW.PrintWords Go.Proofs.YtomccgpachmpbaaW.PrintLast Go.Proofs.YtomccgpachmpbaaW.PrintMore
set_option linter.unusedVariables false

/-! ### alike, none -/
theorem key_cons (s : List S41) (t : List (List S41)) (a b : Int) : keyB (s :: t) a = keyB (s :: t) b ↔ inS s a = inS s b ∧ keyB t a = keyB t b := by simp [keyB]
theorem alike_l0 (l : List (List S41)) (hl : l.length < 17592186044416) (hs : ∀ s ∈ l, s.length < 17592186044416) (a b : Int) : ∀ (d i : Nat), i + d = l.length →
    Ev (fun k => arboristref03_alike.l0 k l a b (i : Int)) (decide (keyB (l.drop i) a = keyB (l.drop i) b)) := by
  intro d
  induction d with
  | zero =>
    intro i hi
    rw [List.drop_eq_nil_of_le (by omega)]
    refine Ev.step (f := fun _ => some true) (fun k => ?_) (Ev.now _)
    simp only [arboristref03_alike.l0]
    rw [if_neg (by omega)]
  | succ d ih =>
    intro i hi
    have hlt : i < l.length := by omega
    have h1 := hs l[i] (List.getElem_mem _)
    rw [List.drop_eq_getElem_cons hlt]
    have hcall : ∀ R, Ev (fun k => (arboristref03_Has.f k l[i] a).bind fun t => (arboristref03_Has.f k l[i] b).bind fun u => if (t != u) = true then some false else arboristref03_alike.l0 k l a b ((i + 1 : Nat) : Int)) R → Ev (fun k => arboristref03_alike.l0 k l a b (i : Int)) R := by
      intro R hR
      refine Ev.step (fun k => ?_) hR
      simp only [arboristref03_alike.l0]
      rw [if_pos (by omega), if_pos (by omega), rd_L2_at l i hlt, wrap_succ hlt (by omega)]
    refine hcall _ (Ev.bind (rhas_ev l[i] h1 a) (Ev.bind (rhas_ev l[i] h1 b) ?_))
    by_cases hb : inS l[i] a = inS l[i] b
    · have e : decide (keyB (l[i] :: l.drop (i + 1)) a = keyB (l[i] :: l.drop (i + 1)) b) = decide (keyB (l.drop (i + 1)) a = keyB (l.drop (i + 1)) b) := decide_eq_decide.2 ⟨fun h => ((key_cons _ _ _ _).1 h).2, fun h => (key_cons _ _ _ _).2 ⟨hb, h⟩⟩
      rw [e]
      exact Ev.congr (fun k => if_neg (by simp [hb])) (ih (i + 1) (by omega))
    · have e : decide (keyB (l[i] :: l.drop (i + 1)) a = keyB (l[i] :: l.drop (i + 1)) b) = false := decide_eq_false (fun h => hb ((key_cons _ _ _ _).1 h).1)
      rw [e]
      exact Ev.congr (fun k => if_pos (by simp [hb])) (Ev.now _)
theorem alike_ev (l : List (List S41)) (hl : l.length < 17592186044416) (hs : ∀ s ∈ l, s.length < 17592186044416) (a b : Int) : Ev (fun k => arboristref03_alike.f k l a b) (decide (keyB l a = keyB l b)) := by
  have h := alike_l0 l hl hs a b l.length 0 (by omega)
  rw [List.drop_zero] at h
  exact h
theorem key_false : ∀ (l : List (List S41)) (r : Int), keyB l r = l.map (fun _ => false) ↔ (keyB l r).any id = false := by
  intro l r
  induction l with
  | nil => simp [keyB]
  | cons s t ih =>
    unfold keyB at ih ⊢
    simp only [List.map_cons, List.any_cons, id, Bool.or_eq_false_iff, List.cons.injEq]
    rw [ih]
theorem key_out (l : List (List S41)) : keyB l (-1) = l.map (fun _ => false) := by
  unfold keyB
  exact List.map_congr_left (fun s _ => by unfold inS; rw [if_pos (by omega)])
theorem none_ev (l : List (List S41)) (hl : l.length < 1000000) (hs : ∀ s ∈ l, s.length < 17592186044416) (r : Int) : Ev (fun k => arboristref03_none.f k l r) (!(keyB l r).any id) := by
  have e : decide (keyB ([[]] ++ l) r = keyB ([[]] ++ l) (-1)) = !(keyB l r).any id := by
    have h1 : keyB ([[]] ++ l) r = false :: keyB l r := by show inS [] r :: keyB l r = _; rw [inS_nil]
    rw [h1, key_out, show ([[]] ++ l : List (List S41)).map (fun _ => false) = false :: l.map (fun _ => false) from rfl]
    by_cases h : (keyB l r).any id = true
    · rw [h]
      refine decide_eq_false (fun h2 => ?_)
      rw [(key_false l r).1 (List.cons.inj h2).2] at h
      cases h
    · have h2 : (keyB l r).any id = false := by simpa using h
      rw [h2]
      exact decide_eq_true (by rw [(key_false l r).2 h2])
  rw [← e]
  refine Ev.congr (fun k => ?_) (Ev.bind (alike_ev ([[]] ++ l) (by rw [List.length_append, List.length_singleton]; omega) (fun s h => by
    rcases List.mem_append.1 h with h | h
    · rw [List.mem_singleton.1 h]; simp
    · exact hs s h) r (-1)) (Ev.now _))
  simp only [arboristref03_none.f, Option.bind_some]
  rw [if_pos (by rw [List.length_singleton]; omega)]

/-! ### classes, by their keys -/
/-- The classes whose keys P takes, of the runes below the i-th start. -/
structure Cl (l : List (List S41)) (n : Int) (P : List Bool → Prop) (L : List (List Bool × List S41)) : Prop where
  nodup : (L.map (·.1)).Nodup
  key : ∀ g ∈ L, P g.1
  can : ∀ g ∈ L, Can g.2
  mem : ∀ g ∈ L, ∀ x, Pure.mem g.2 x ↔ 0 ≤ x ∧ x < n ∧ keyB l x = g.1
  all : ∀ x, 0 ≤ x → x < n → P (keyB l x) → keyB l x ∈ L.map (·.1)
  some : ∀ g ∈ L, ∃ x, Pure.mem g.2 x
  ord : L.Pairwise (fun g h => ∃ x, Pure.mem g.2 x ∧ ∀ y, Pure.mem h.2 y → x < y)
theorem Cl.skip {l : List (List S41)} {n m : Int} {P : List Bool → Prop} {L : List (List Bool × List S41)} (h : Cl l n P L) {b : List Bool} (hc : ∀ x, n ≤ x → x < m → keyB l x = b) (hb : ¬ P b) (hnm : n ≤ m) : Cl l m P L := by
  refine ⟨h.nodup, h.key, h.can, fun g hg x => ?_, fun x h0 h1 h2 => ?_, h.some, h.ord⟩
  · rw [h.mem g hg x]
    constructor
    · rintro ⟨a1, a2, a3⟩; exact ⟨a1, by omega, a3⟩
    · rintro ⟨a1, a2, a3⟩
      by_cases hx : x < n
      · exact ⟨a1, hx, a3⟩
      · exact absurd (h.key g hg) (by rw [← a3, hc x (by omega) a2]; exact hb)
  · by_cases hx : x < n
    · exact h.all x h0 hx h2
    · exact absurd h2 (by rw [hc x (by omega) h1]; exact hb)
theorem Cl.new {l : List (List S41)} {n m : Int} {P : List Bool → Prop} {L : List (List Bool × List S41)} (h : Cl l n P L) {b : List Bool} (hc : ∀ x, n ≤ x → x < m → keyB l x = b) (hP : P b) (hb : b ∉ L.map (·.1)) (h0 : 0 ≤ n) (hnm : n < m) (hm : m ≤ 1114112) :
    Cl l m P (L ++ [(b, [⟨n, m - 1⟩])]) := by
  have hcase : ∀ g, g ∈ L ++ [(b, [(⟨n, m - 1⟩ : S41)])] → g ∈ L ∨ g = (b, [⟨n, m - 1⟩]) := fun g hg => (List.mem_append.1 hg).imp_right List.mem_singleton.1
  refine ⟨?_, fun g hg => ?_, fun g hg => ?_, fun g hg x => ?_, fun x a1 a2 a3 => ?_, fun g hg => ?_, ?_⟩
  · rw [List.map_append, List.nodup_append]
    refine ⟨h.nodup, by simp, fun a ha c hc' => ?_⟩
    rw [show c = b by simpa using hc']
    rintro rfl
    exact hb ha
  · rcases hcase g hg with hg | rfl
    · exact h.key g hg
    · exact hP
  · rcases hcase g hg with hg | rfl
    · exact h.can g hg
    · exact can_one (by unfold Ok; simp only; omega)
  · rcases hcase g hg with hg | rfl
    · rw [h.mem g hg x]
      constructor
      · rintro ⟨a1, a2, a3⟩; exact ⟨a1, by omega, a3⟩
      · rintro ⟨a1, a2, a3⟩
        by_cases hx : x < n
        · exact ⟨a1, hx, a3⟩
        · exact absurd (List.mem_map.2 ⟨g, hg, a3.symm.trans (hc x (by omega) a2)⟩) hb
    · rw [mem_one]
      simp only
      constructor
      · rintro ⟨a1, a2⟩; exact ⟨by omega, by omega, hc x (by omega) (by omega)⟩
      · rintro ⟨a1, a2, a3⟩
        by_cases hx : x < n
        · exact absurd (a3 ▸ h.all x a1 hx (a3 ▸ hP)) hb
        · omega
  · rw [List.map_append, List.mem_append]
    by_cases hx : x < n
    · exact .inl (h.all x a1 hx a3)
    · rw [hc x (by omega) a2]; exact .inr (by simp)
  · rcases hcase g hg with hg | rfl
    · exact h.some g hg
    · exact ⟨n, mem_one.2 ⟨Int.le_refl _, by simp only; omega⟩⟩
  · rw [List.pairwise_append]
    refine ⟨h.ord, List.pairwise_singleton _ _, fun g hg g' hg' => ?_⟩
    rw [List.mem_singleton.1 hg']
    obtain ⟨x, hx⟩ := h.some g hg
    refine ⟨x, hx, fun y hy => ?_⟩
    rw [mem_one] at hy
    have := ((h.mem g hg x).1 hx).2.1
    simp only at hy
    omega
theorem joinR_ne (o : List S41) (lo hi : Int) : joinR o lo hi ≠ [] := by
  rcases List.eq_nil_or_concat o with rfl | ⟨o, p, rfl⟩
  · rw [joinR_nil]; simp
  · rw [List.concat_eq_append, joinR_snoc]; split <;> simp
theorem Cl.low {l : List (List S41)} {n : Int} {P : List Bool → Prop} {L : List (List Bool × List S41)} (h : Cl l n P L) {g : List Bool × List S41} (hg : g ∈ L) : ∀ y ∈ g.2, y.f1 < n := fun y hy => by
  have := (h.can g hg).1 y hy
  unfold Ok at this
  exact ((h.mem g hg y.f1).1 ⟨y, hy, this.2.1, Int.le_refl _⟩).2.1
theorem Cl.found {l : List (List S41)} {n m : Int} {P : List Bool → Prop} {A B : List (List Bool × List S41)} {b : List Bool} {p : List S41} (h : Cl l n P (A ++ (b, p) :: B)) (hc : ∀ x, n ≤ x → x < m → keyB l x = b) (h0 : 0 ≤ n) (hnm : n < m) (hm : m ≤ 1114112) :
    Cl l m P (A ++ (b, joinR p n (m - 1)) :: B) := by
  obtain ⟨j1, _, j3⟩ := joinR_spec (h.can (b, p) (by simp)) (h.low (g := (b, p)) (by simp)) h0 (show n ≤ m - 1 by omega) (show m - 1 ≤ 1114111 by omega)
  have hf : (A ++ (b, joinR p n (m - 1)) :: B).map (·.1) = (A ++ (b, p) :: B).map (·.1) := by simp
  have hne : ∀ g, g ∈ A ∨ g ∈ B → g.1 ≠ b := by
    intro g hg hb
    have hd := h.nodup
    rw [List.map_append, List.map_cons, List.nodup_append] at hd
    rcases hg with hg | hg
    · exact hd.2.2 g.1 (List.mem_map.2 ⟨g, hg, rfl⟩) b (by simp) hb
    · exact (List.nodup_cons.1 hd.2.1).1 (List.mem_map.2 ⟨g, hg, hb⟩)
  have hmo : ∀ g, g ∈ A ∨ g ∈ B → ∀ x, Pure.mem g.2 x ↔ 0 ≤ x ∧ x < m ∧ keyB l x = g.1 := fun g hg x => by
    rw [h.mem g (by rcases hg with hg | hg <;> simp [hg]) x]
    constructor
    · rintro ⟨a1, a2, a3⟩; exact ⟨a1, by omega, a3⟩
    · rintro ⟨a1, a2, a3⟩
      by_cases hx : x < n
      · exact ⟨a1, hx, a3⟩
      · exact absurd (a3.symm.trans (hc x (by omega) a2)) (hne g hg)
  have hms : ∀ x, Pure.mem (joinR p n (m - 1)) x ↔ 0 ≤ x ∧ x < m ∧ keyB l x = b := fun x => by
    rw [j3, h.mem (b, p) (by simp) x]
    simp only
    constructor
    · rintro (⟨a1, a2, a3⟩ | ⟨a1, a2⟩)
      · exact ⟨a1, by omega, a3⟩
      · exact ⟨by omega, by omega, hc x (by omega) (by omega)⟩
    · rintro ⟨a1, a2, a3⟩
      by_cases hx : x < n
      · exact .inl ⟨a1, hx, a3⟩
      · exact .inr (by omega)
  have hcase : ∀ g, g ∈ A ++ (b, joinR p n (m - 1)) :: B → (g ∈ A ∨ g ∈ B) ∨ g = (b, joinR p n (m - 1)) := fun g hg => by
    rcases List.mem_append.1 hg with hg | hg
    · exact .inl (.inl hg)
    · rcases List.mem_cons.1 hg with hg | hg
      · exact .inr hg
      · exact .inl (.inr hg)
  have hold : ∀ g, g ∈ A ∨ g ∈ B → g ∈ A ++ (b, p) :: B := fun g hg => by rcases hg with hg | hg <;> simp [hg]
  refine ⟨hf ▸ h.nodup, fun g hg => ?_, fun g hg => ?_, fun g hg x => ?_, fun x a1 a2 a3 => ?_, fun g hg => ?_, ?_⟩
  · rcases hcase g hg with hg | rfl
    · exact h.key g (hold g hg)
    · exact h.key (b, p) (by simp)
  · rcases hcase g hg with hg | rfl
    · exact h.can g (hold g hg)
    · exact j1
  · rcases hcase g hg with hg | rfl
    · exact hmo g hg x
    · exact hms x
  · rw [hf]
    by_cases hx : x < n
    · exact h.all x a1 hx a3
    · rw [hc x (by omega) a2]; simp
  · rcases hcase g hg with hg | rfl
    · exact h.some g (hold g hg)
    · exact ⟨n, (hms n).2 ⟨h0, hnm, hc n (Int.le_refl _) hnm⟩⟩
  · have ho := h.ord
    rw [List.pairwise_append, List.pairwise_cons] at ho ⊢
    have hp : ∀ x, Pure.mem p x → Pure.mem (joinR p n (m - 1)) x := fun x hx => (j3 x).2 (.inl hx)
    refine ⟨ho.1, ⟨fun g hg => ?_, ho.2.1.2⟩, fun g hg g' hg' => ?_⟩
    · obtain ⟨x, hx, hy⟩ := ho.2.1.1 g hg
      exact ⟨x, hp x hx, hy⟩
    · rcases List.mem_cons.1 hg' with rfl | hg'
      · obtain ⟨x, hx, hy⟩ := ho.2.2 g hg (b, p) (by simp)
        refine ⟨x, hx, fun y hm' => ?_⟩
        rcases (j3 y).1 hm' with h1 | h1
        · exact hy y h1
        · have := ((h.mem g (by simp [hg]) x).1 hx).2.1
          omega
      · exact ho.2.2 g hg g' (by simp [hg'])
/-- There is one such list of sets. -/
theorem Cl.one {l : List (List S41)} {n : Int} {P : List Bool → Prop} {L M : List (List Bool × List S41)} (h : Cl l n P L) (k : Cl l n P M) : L = M := by
  have hset : ∀ g ∈ L, ∀ g' ∈ M, g.1 = g'.1 → g = g' := fun g hg g' hg' e => by
    refine Prod.ext e (can_ext (h.can g hg) (k.can g' hg') (fun x => ?_))
    rw [h.mem g hg, k.mem g' hg', e]
  have hin : ∀ {L M : List (List Bool × List S41)}, Cl l n P L → Cl l n P M → ∀ g ∈ L, g ∈ M := fun {L M} h k g hg => by
    obtain ⟨x, hx⟩ := h.some g hg
    obtain ⟨a1, a2, a3⟩ := (h.mem g hg x).1 hx
    obtain ⟨g', hg', e⟩ := List.mem_map.1 (k.all x a1 a2 (a3 ▸ h.key g hg))
    have e2 : g.1 = g'.1 := by rw [e, a3]
    have : g = g' := Prod.ext e2 (can_ext (h.can g hg) (k.can g' hg') (fun y => by rw [h.mem g hg, k.mem g' hg', e2]))
    rw [this]
    exact hg'
  have nd : ∀ {L : List (List Bool × List S41)}, Cl l n P L → L.Nodup := fun {L} h => by
    have := h.nodup
    unfold List.Nodup at this ⊢
    rw [List.pairwise_map] at this
    exact this.imp (fun hne e => hne (by rw [e]))
  have hp : L.Perm M := (List.perm_ext_iff_of_nodup (nd h) (nd k)).2 (fun g => ⟨hin h k g, hin k h g⟩)
  refine List.Perm.eq_of_pairwise (le := fun g h => ∃ x, Pure.mem g.2 x ∧ ∀ y, Pure.mem h.2 y → x < y) (fun a b _ _ h1 h2 => ?_) h.ord k.ord hp
  obtain ⟨x, hx, h1⟩ := h1
  obtain ⟨y, hy, h2⟩ := h2
  have := h1 y hy
  have := h2 x hx
  omega

/-! ### the reference's Parts -/
def Rest (l : List (List S41)) (n : Int) (s : List S41) : Prop := Can s ∧ ∀ x, Pure.mem s x ↔ 0 ≤ x ∧ x < n ∧ (keyB l x).any id = false
def hasK (b : List Bool) : Prop := b.any id = true
theorem rl1_step {l : List (List S41)} (hl : l.length < 1000000) (hs : ∀ s ∈ l, s.length < 17592186044416) {O : List (List Bool × List S41)} {n : Int} (h : Cl l n hasK O) (hO : O.length ≤ 1114112) {lo : Int} {b : List Bool} (hb : keyB l lo = b) {j : Nat} (hj : j < O.length) {rr R : Int} (hR : Ev (fun k => arboristref03_Parts.l1 l (O.map (·.2)) lo k (j + 1) (if O[j].1 = b then (j : Int) else rr)) R) : Ev (fun k => arboristref03_Parts.l1 l (O.map (·.2)) lo k j rr) R := by
  have hg : O[j] ∈ O := List.getElem_mem _
  obtain ⟨x, y, hy, _⟩ := h.some O[j] hg
  have hpos : 0 < O[j].2.length := List.length_pos_of_mem hy
  have hok := (h.can O[j] hg).1 O[j].2[0] (List.getElem_mem _)
  unfold Ok at hok
  have hm := ((h.mem O[j] hg O[j].2[0].f0).1 ⟨O[j].2[0], List.getElem_mem _, Int.le_refl _, hok.2.1⟩).2.2
  have e1 : rd_L2 (O.map (·.2)) (j : Int) = O[j].2 := by
    rw [rd_L2_at _ _ (by rw [List.length_map]; exact hj)]
    exact List.getElem_map ..
  have e2 : rd_T41 O[j].2 0 = O[j].2[0] := rd_at O[j].2 0 hpos
  refine Ev.step (fun k => ?_) (Ev.bind (alike_ev l (by omega) hs O[j].2[0].f0 lo) (f := fun k c => arboristref03_Parts.l1 l (O.map (·.2)) lo k (j + 1) (if c = true then (j : Int) else rr)) (r := R) ?_)
  · simp only [arboristref03_Parts.l1]
    rw [if_pos (by rw [List.length_map]; exact hj), e1, if_pos ⟨hpos, by rw [List.length_map]; omega⟩, e2]
  · rw [hm, hb]
    simp only [decide_eq_true_eq]
    exact hR
theorem rl1_no {l : List (List S41)} (hl : l.length < 1000000) (hs : ∀ s ∈ l, s.length < 17592186044416) {O : List (List Bool × List S41)} {n : Int} (h : Cl l n hasK O) (hO : O.length ≤ 1114112) {lo : Int} {b : List Bool} (hb : keyB l lo = b) : ∀ (d j : Nat) (rr : Int), j + d = O.length → (∀ m (hm : m < O.length), j ≤ m → O[m].1 ≠ b) → Ev (fun k => arboristref03_Parts.l1 l (O.map (·.2)) lo k j rr) rr := by
  intro d
  induction d with
  | zero =>
    intro j rr hj _
    refine Ev.step (f := fun _ => some rr) (fun k => ?_) (Ev.now _)
    simp only [arboristref03_Parts.l1]
    rw [if_neg (by rw [List.length_map]; omega)]
  | succ d ih =>
    intro j rr hj hno
    have hlt : j < O.length := by omega
    refine rl1_step hl hs h hO hb hlt ?_
    rw [if_neg (hno j hlt (Nat.le_refl _))]
    exact ih (j + 1) rr (by omega) (fun m hm h2 => hno m hm (by omega))
theorem rl1_yes {l : List (List S41)} (hl : l.length < 1000000) (hs : ∀ s ∈ l, s.length < 17592186044416) {O : List (List Bool × List S41)} {n : Int} (h : Cl l n hasK O) (hO : O.length ≤ 1114112) {lo : Int} {b : List Bool} (hb : keyB l lo = b) {m : Nat} (hm : m < O.length) (hmb : O[m].1 = b) : ∀ (d j : Nat) (rr : Int), j + d = O.length → j ≤ m → Ev (fun k => arboristref03_Parts.l1 l (O.map (·.2)) lo k j rr) (m : Int) := by
  have huniq : ∀ j (hj : j < O.length), O[j].1 = b → j = m := fun j hj e => by
    have hd := h.nodup
    have hne := List.pairwise_iff_getElem.1 hd
    rcases Nat.lt_trichotomy j m with h1 | h1 | h1
    · exact absurd (by rw [List.getElem_map, List.getElem_map, e, hmb]) (hne j m (by rw [List.length_map]; exact hj) (by rw [List.length_map]; exact hm) h1)
    · exact h1
    · exact absurd (by rw [List.getElem_map, List.getElem_map, e, hmb]) (hne m j (by rw [List.length_map]; exact hm) (by rw [List.length_map]; exact hj) h1)
  intro d
  induction d with
  | zero => intro j rr hj hjm; omega
  | succ d ih =>
    intro j rr hj hjm
    have hlt : j < O.length := by omega
    refine rl1_step hl hs h hO hb hlt ?_
    by_cases e : j = m
    · subst e
      rw [if_pos hmb]
      exact rl1_no hl hs h hO hb d (j + 1) (j : Int) (by omega) (fun m' hm' h2 e' => by have := huniq m' hm' e'; omega)
    · exact ih (j + 1) _ (by omega) (by omega)
theorem key_const' {l : List (List S41)} {e : List Int} (he : Good e) (hc : ∀ s ∈ l, ∀ y ∈ s, cov e y) {i : Nat} (hi : i < e.length) {x : Int} (h0 : nx e i ≤ x) (h1 : x < nx e (i + 1)) : keyB l x = keyB l (nx e i) := by
  unfold keyB
  refine List.map_congr_left (fun s hs => ?_)
  obtain ⟨n1, n2, n3⟩ := he.nx_lt hi
  exact seg_const (hc s hs) n2 h0 (by omega) (fun z hz => by rcases he.nx_sep hi z hz with h | h <;> omega)
theorem rl0 (l : List (List S41)) (hl : l.length < 1000000) (hs : ∀ s ∈ l, s.length < 17592186044416) (e : List Int) (he : Good e) (hc : ∀ s ∈ l, ∀ y ∈ s, cov e y) : ∀ (d i : Nat) (O : List (List Bool × List S41)) (s : List S41), i + d = e.length → Cl l (nx e i) hasK O → Rest l (nx e i) s → O.length ≤ i →
    ∃ O' s', Cl l 1114112 hasK O' ∧ Rest l 1114112 s' ∧ O'.length ≤ 1114112 ∧ Ev (fun k => arboristref03_Parts.l0 l e k (O.map (·.2)) s i) (if 0 < s'.length then O'.map (·.2) ++ [s'] else O'.map (·.2)) := by
  have hlen := he.len
  intro d
  induction d with
  | zero =>
    intro i O s hi h1 h2 h3
    have hn : nx e i = 1114112 := nx_end (by omega)
    rw [hn] at h1 h2
    refine ⟨O, s, h1, h2, by omega, Ev.step (f := fun _ => some (if 0 < s.length then O.map (·.2) ++ [s] else O.map (·.2))) (fun k => ?_) (Ev.now _)⟩
    simp only [arboristref03_Parts.l0]
    rw [if_neg (by omega), if_pos (by rw [List.length_map]; omega)]
  | succ d ih =>
    intro i O s hi h1 h2 h3
    have hlt : i < e.length := by omega
    obtain ⟨n1, n2, n3⟩ := he.nx_lt hlt
    have hconst : ∀ x, nx e i ≤ x → x < nx e (i + 1) → keyB l x = keyB l (nx e i) := fun x a1 a2 => key_const' he hc hlt a1 a2
    have elo : rd e (i : Int) = nx e i := by rw [rd_int e i hlt, nx_at hlt]
    have ehi : arboristref03_Parts.hi e i = nx e (i + 1) - 1 := by
      unfold arboristref03_Parts.hi
      by_cases h4 : i + 1 < e.length
      · rw [if_pos h4, rd_int e (i + 1) h4, ← nx_at h4, wrap32_of (by omega) (by omega)]
      · rw [if_neg h4, nx_end (show e.length ≤ i + 1 by omega)]; rfl
    have hnone := none_ev l hl hs (nx e i)
    by_cases hany : (keyB l (nx e i)).any id = true
    · -- a class
      rw [hany] at hnone
      have hrest : Rest l (nx e (i + 1)) s := ⟨h2.1, fun x => by
        rw [h2.2]
        constructor
        · rintro ⟨a1, a2, a3⟩; exact ⟨a1, by omega, a3⟩
        · rintro ⟨a1, a2, a3⟩
          by_cases hx : x < nx e i
          · exact ⟨a1, hx, a3⟩
          · rw [hconst x (by omega) a2, hany] at a3; cases a3⟩
      by_cases hk : keyB l (nx e i) ∈ O.map (·.1)
      · obtain ⟨m, hm, hmb⟩ := List.mem_iff_getElem.1 hk
        rw [List.length_map] at hm
        rw [List.getElem_map] at hmb
        have hOm : O = O.take m ++ (keyB l (nx e i), O[m].2) :: O.drop (m + 1) := by
          have h4 : O = O.take m ++ O.drop m := (List.take_append_drop m O).symm
          rw [List.drop_eq_getElem_cons hm] at h4
          rw [← hmb]
          exact h4
        have hcl : Cl l (nx e i) hasK (O.take m ++ (keyB l (nx e i), O[m].2) :: O.drop (m + 1)) := hOm ▸ h1
        obtain ⟨O', s', g1, g2, g3, g4⟩ := ih (i + 1) _ s (by omega) (hcl.found hconst n2 n1 n3) hrest (by
          have := congrArg List.length hOm
          simp only [List.length_append, List.length_cons] at this ⊢
          omega)
        refine ⟨O', s', g1, g2, g3, ?_⟩
        have hl1 := rl1_yes hl hs h1 (by omega) rfl hm hmb O.length 0 (-1) (by omega) (Nat.zero_le _)
        have e0 : rd_L2 (O.map (·.2)) (m : Int) = O[m].2 := by
          rw [rd_L2_at _ _ (by rw [List.length_map]; exact hm)]
          exact List.getElem_map ..
        have hcm := h1.can O[m] (List.getElem_mem _)
        have hj := join_f O[m].2 (nx e i) (nx e (i + 1) - 1) (by have := can_len hcm; omega) hcm.1
        have e2 : (O.take m ++ (keyB l (nx e i), joinR O[m].2 (nx e i) (nx e (i + 1) - 1)) :: O.drop (m + 1)).map (·.2) = (O.map (·.2)).set m (joinR O[m].2 (nx e i) (nx e (i + 1) - 1)) := by
          have h4 : O.map (·.2) = (O.take m).map (·.2) ++ O[m].2 :: (O.drop (m + 1)).map (·.2) := by
            have := congrArg (List.map (·.2)) hOm
            rw [this]; simp
          rw [h4, List.set_append_right _ _ (by rw [List.length_map, List.length_take]; omega), List.length_map, List.length_take, show m - min m O.length = 0 by omega]
          simp
        rw [e2] at g4
        refine Ev.step (fun k => ?_) (Ev.bind hnone (f := fun k c => if c = true then (arboristref03_join.f s (nx e i) (nx e (i + 1) - 1)).bind fun s' => arboristref03_Parts.l0 l e k (O.map (·.2)) s' (i + 1)
            else (arboristref03_Parts.l1 l (O.map (·.2)) (nx e i) k 0 (-1)).bind fun j => if j < 0 then (if (O.map (·.2)).length < 1000000000 then arboristref03_Parts.l0 l e k (O.map (·.2) ++ [[⟨nx e i, nx e (i + 1) - 1⟩]]) s (i + 1) else none)
              else if j < (O.map (·.2)).length then (arboristref03_join.f (rd_L2 (O.map (·.2)) j) (nx e i) (nx e (i + 1) - 1)).bind fun s' => arboristref03_Parts.l0 l e k ((O.map (·.2)).set j.toNat s') s (i + 1) else none) ?_)
        · simp only [arboristref03_Parts.l0]
          rw [if_pos hlt, elo, ehi]
        · refine Ev.congr (fun k => if_neg (by simp)) (Ev.bind hl1 ?_)
          refine Ev.congr (fun k => ?_) g4
          rw [if_neg (by omega), if_pos (by rw [List.length_map]; omega), e0, hj, Option.bind_some, Int.toNat_natCast]
      · have hl1 := rl1_no hl hs h1 (by omega) rfl O.length 0 (-1) (by omega) (fun m hm _ hmb => hk (List.mem_iff_getElem.2 ⟨m, by rw [List.length_map]; exact hm, by rw [List.getElem_map]; exact hmb⟩))
        obtain ⟨O', s', g1, g2, g3, g4⟩ := ih (i + 1) _ s (by omega) (h1.new hconst hany hk n2 n1 n3) hrest (by rw [List.length_append, List.length_singleton]; omega)
        refine ⟨O', s', g1, g2, g3, ?_⟩
        rw [show (O ++ [(keyB l (nx e i), [(⟨nx e i, nx e (i + 1) - 1⟩ : S41)])]).map (·.2) = O.map (·.2) ++ [[⟨nx e i, nx e (i + 1) - 1⟩]] by simp] at g4
        refine Ev.step (fun k => ?_) (Ev.bind hnone (f := fun k c => if c = true then (arboristref03_join.f s (nx e i) (nx e (i + 1) - 1)).bind fun s' => arboristref03_Parts.l0 l e k (O.map (·.2)) s' (i + 1)
            else (arboristref03_Parts.l1 l (O.map (·.2)) (nx e i) k 0 (-1)).bind fun j => if j < 0 then (if (O.map (·.2)).length < 1000000000 then arboristref03_Parts.l0 l e k (O.map (·.2) ++ [[⟨nx e i, nx e (i + 1) - 1⟩]]) s (i + 1) else none)
              else if j < (O.map (·.2)).length then (arboristref03_join.f (rd_L2 (O.map (·.2)) j) (nx e i) (nx e (i + 1) - 1)).bind fun s' => arboristref03_Parts.l0 l e k ((O.map (·.2)).set j.toNat s') s (i + 1) else none) ?_)
        · simp only [arboristref03_Parts.l0]
          rw [if_pos hlt, elo, ehi]
        · refine Ev.congr (fun k => if_neg (by simp)) (Ev.bind hl1 ?_)
          refine Ev.congr (fun k => ?_) g4
          rw [if_pos (by omega), if_pos (by rw [List.length_map]; omega)]
    · -- the rest
      have hany' : (keyB l (nx e i)).any id = false := by simpa using hany
      rw [hany'] at hnone
      have hlow : ∀ y ∈ s, y.f1 < nx e i := fun y hy => by
        have := h2.1.1 y hy
        unfold Ok at this
        exact ((h2.2 y.f1).1 ⟨y, hy, this.2.1, Int.le_refl _⟩).2.1
      obtain ⟨j1, _, j3⟩ := joinR_spec h2.1 hlow n2 (show nx e i ≤ nx e (i + 1) - 1 by omega) (show nx e (i + 1) - 1 ≤ 1114111 by omega)
      have hj := join_f s (nx e i) (nx e (i + 1) - 1) (by have := can_len h2.1; omega) h2.1.1
      have hrest : Rest l (nx e (i + 1)) (joinR s (nx e i) (nx e (i + 1) - 1)) := ⟨j1, fun x => by
        rw [j3, h2.2]
        constructor
        · rintro (⟨a1, a2, a3⟩ | ⟨a1, a2⟩)
          · exact ⟨a1, by omega, a3⟩
          · exact ⟨by omega, by omega, by rw [hconst x a1 (by omega)]; exact hany'⟩
        · rintro ⟨a1, a2, a3⟩
          by_cases hx : x < nx e i
          · exact .inl ⟨a1, hx, a3⟩
          · exact .inr (by omega)⟩
      obtain ⟨O', s', g1, g2, g3, g4⟩ := ih (i + 1) O _ (by omega) (h1.skip hconst (fun h => by unfold hasK at h; rw [hany'] at h; cases h) (by omega)) hrest (by omega)
      refine ⟨O', s', g1, g2, g3, ?_⟩
      refine Ev.step (fun k => ?_) (Ev.bind hnone (f := fun k c => if c = true then (arboristref03_join.f s (nx e i) (nx e (i + 1) - 1)).bind fun s' => arboristref03_Parts.l0 l e k (O.map (·.2)) s' (i + 1)
          else (arboristref03_Parts.l1 l (O.map (·.2)) (nx e i) k 0 (-1)).bind fun j => if j < 0 then (if (O.map (·.2)).length < 1000000000 then arboristref03_Parts.l0 l e k (O.map (·.2) ++ [[⟨nx e i, nx e (i + 1) - 1⟩]]) s (i + 1) else none)
            else if j < (O.map (·.2)).length then (arboristref03_join.f (rd_L2 (O.map (·.2)) j) (nx e i) (nx e (i + 1) - 1)).bind fun s' => arboristref03_Parts.l0 l e k ((O.map (·.2)).set j.toNat s') s (i + 1) else none) ?_)
      · simp only [arboristref03_Parts.l0]
        rw [if_pos hlt, elo, ehi]
      · refine Ev.congr (fun k => ?_) g4
        rw [if_pos (by simp), hj, Option.bind_some]
theorem rparts_ev (l : List (List S41)) (hl : l.length < 1000000) (hs : ∀ s ∈ l, s.length < 17592186044416) :
    ∃ O s, Cl l 1114112 hasK O ∧ Rest l 1114112 s ∧ O.length ≤ 1114112 ∧ Ev (fun k => arboristref03_Parts.f k l) (if 0 < s.length then O.map (·.2) ++ [s] else O.map (·.2)) := by
  obtain ⟨he, hc⟩ := endsR_good l
  have hn := he.len
  obtain ⟨O, s, h1, h2, h3, h4⟩ := rl0 l hl hs (endsR l) he hc (endsR l).length 0 [] [] (by omega) (by
    rw [he.nx_zero]
    exact ⟨by simp, fun g hg => absurd hg (by simp), fun g hg => absurd hg (by simp), fun g hg => absurd hg (by simp), fun x a1 a2 => by omega, fun g hg => absurd hg (by simp), List.Pairwise.nil⟩) (by
    rw [he.nx_zero]
    exact ⟨can_nil, fun x => ⟨fun h => absurd h (mem_nil x), fun h => by omega⟩⟩) (by simp)
  refine ⟨O, s, h1, h2, h3, ?_⟩
  unfold arboristref03_Parts.f
  exact Ev.bind (ends_ev l (by omega) hs) (Ev.congr (fun k => if_pos (by omega)) h4)

/-! ### the two answers -/
theorem cl_of_inv {l : List (List S41)} {e : List Int} (hx : nx e e.length = 1114112) {G : List (List Bool × List S41)} (h : Inv l e e.length G) (q : List Bool → Bool) :
    Cl l 1114112 (fun b => q b = true) ((G.filter (fun g => q g.1)).map (fun g => (g.1, setG g))) := by
  have hsub : ∀ g ∈ G.filter (fun g => q g.1), g ∈ G ∧ q g.1 = true := fun g hg => by simpa using hg
  have hm : ∀ g ∈ G, ∀ x, Pure.mem (setG g) x ↔ Pure.mem g.2 x := fun g hg x => by
    show Pure.mem (ofR g.2) x ↔ _
    rw [(ofR_spec g.2).2]
    constructor
    · exact fun h => h.2
    · intro h2
      have h3 := (h.mem g hg x).1 h2
      rw [hx] at h3
      exact ⟨⟨h3.1, by omega⟩, h2⟩
  refine ⟨?_, fun g hg => ?_, fun g hg => ?_, fun g hg x => ?_, fun x a1 a2 a3 => ?_, fun g hg => ?_, ?_⟩
  · rw [List.map_map]
    exact (List.Nodup.sublist (List.Sublist.map _ List.filter_sublist) h.nodup)
  · obtain ⟨g, hg', rfl⟩ := List.mem_map.1 hg
    exact (hsub g hg').2
  · obtain ⟨g, hg', rfl⟩ := List.mem_map.1 hg
    exact (ofR_spec g.2).1
  · obtain ⟨g, hg', rfl⟩ := List.mem_map.1 hg
    simp only
    rw [hm g (hsub g hg').1, h.mem g (hsub g hg').1, hx]
  · have := h.all x a1 (by rw [hx]; exact a2)
    obtain ⟨g, hg, hgb⟩ := List.mem_map.1 this
    rw [List.map_map]
    exact List.mem_map.2 ⟨g, List.mem_filter.2 ⟨hg, by rw [hgb]; exact a3⟩, hgb⟩
  · obtain ⟨g, hg', rfl⟩ := List.mem_map.1 hg
    obtain ⟨x, h2⟩ := h.some g (hsub g hg').1
    exact ⟨x, (hm g (hsub g hg').1 x).2 h2⟩
  · rw [List.pairwise_map]
    refine (List.Pairwise.sublist List.filter_sublist h.ord).imp_of_mem (fun {a b} ha hb h2 => ?_)
    obtain ⟨x, h3, h4⟩ := h2
    exact ⟨x, (hm a (hsub a ha).1 x).2 h3, fun y hy => h4 y ((hm b (hsub b hb).1 y).1 hy)⟩
theorem parts_same (l : List (List S41)) (hl : l.length < 1000000) (hs : ∀ s ∈ l, s.length < 17592186044416) : ∃ R, Ev (fun k => charset_Parts.f k l) R ∧ Ev (fun k => arboristref03_Parts.f k l) R ∧ R.length ≤ 1114113 ∧ ∀ s ∈ R, Can s := by
  obtain ⟨G, g1, g2⟩ := parts_ev l hl hs
  obtain ⟨O, s, h1, h2, h3, h4⟩ := rparts_ev l hl hs
  have hx : nx (startsR l) (startsR l).length = 1114112 := nx_end (Nat.le_refl _)
  have k1 : Cl l 1114112 hasK ((G.filter hasG).map (fun g => (g.1, setG g))) := cl_of_inv hx g1 (fun b => b.any id)
  have k2 := cl_of_inv hx g1 (fun b => !b.any id)
  have e1 := k1.one h1
  have hrest : Cl l 1114112 (fun b => (!b.any id) = true) (if 0 < s.length then [(l.map (fun _ => false), s)] else []) := by
    have hf : (l.map (fun _ => false)).any id = false := by simp
    split
    · rename_i hp
      refine ⟨by simp, fun g hg => ?_, fun g hg => ?_, fun g hg x => ?_, fun x a1 a2 a3 => ?_, fun g hg => ?_, List.pairwise_singleton _ _⟩
      · rw [List.mem_singleton.1 hg, hf]; rfl
      · rw [List.mem_singleton.1 hg]; exact h2.1
      · rw [List.mem_singleton.1 hg]
        simp only
        rw [h2.2, key_false]
      · have : (keyB l x).any id = false := by simpa using a3
        rw [List.map_cons, (key_false l x).2 this]
        simp
      · rw [List.mem_singleton.1 hg]
        have hok := h2.1.1 s[0] (List.getElem_mem _)
        exact ⟨s[0].f0, s[0], List.getElem_mem _, Int.le_refl _, hok.2.1⟩
    · rename_i hp
      have hsn : s = [] := List.eq_nil_of_length_eq_zero (by omega)
      refine ⟨by simp, fun g hg => absurd hg (by simp), fun g hg => absurd hg (by simp), fun g hg => absurd hg (by simp), fun x a1 a2 a3 => ?_, fun g hg => absurd hg (by simp), List.Pairwise.nil⟩
      have := (h2.2 x).2 ⟨a1, a2, by simpa using a3⟩
      rw [hsn] at this
      exact absurd this (mem_nil x)
  have e2 := k2.one hrest
  have e3 : (outG G).map setG = if 0 < s.length then O.map (·.2) ++ [s] else O.map (·.2) := by
    unfold outG
    rw [List.map_append]
    have f1 : (G.filter hasG).map setG = O.map (·.2) := by rw [← e1, List.map_map]; rfl
    have f2 : (G.filter (fun g => !hasG g)).map setG = (if 0 < s.length then [(l.map (fun _ => false), s)] else []).map (·.2) := by rw [← e2, List.map_map]; rfl
    rw [f1, f2]
    split <;> simp
  rw [e3] at g2
  refine ⟨_, g2, h4, ?_, fun t ht => ?_⟩
  · split
    · rw [List.length_append, List.length_singleton, List.length_map]; omega
    · rw [List.length_map]; omega
  · have hc : ∀ t ∈ O.map (·.2), Can t := fun t ht => by
      obtain ⟨g, hg, rfl⟩ := List.mem_map.1 ht
      exact h1.can g hg
    split at ht
    · rcases List.mem_append.1 ht with ht | ht
      · exact hc t ht
      · rw [List.mem_singleton.1 ht]; exact h2.1
    · exact hc t ht
end Go.Proofs.Ytomccgpachmpbaa.Pure
