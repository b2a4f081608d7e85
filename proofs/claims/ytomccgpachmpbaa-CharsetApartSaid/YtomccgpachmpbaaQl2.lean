/- What the reference's operations come to: they answer canonical lists with the members that the operation asks for. -/
import Derived.Test.YtomccgpachmpbaaPBx4
import Derived.Test.YtomccgpachmpbaaQl1
-- needs: charset_Has
namespace Go.Proofs.Ytomccgpachmpbaa.Pure
open Go.RowKit Go.Proofs.Ytomccgpachmpbaa.PB Go.Proofs.YtomccgpachmpbaaW.PrintWords Go.Proofs.YtomccgpachmpbaaW.PrintLast Go.Proofs.YtomccgpachmpbaaW.PrintMore
set_option linter.unusedVariables false

/-! ### Has -/
theorem inS_cons_pos {y : S41} {l : List S41} {r : Int} (h : max y.f0 0 ≤ r ∧ r ≤ min y.f1 1114111) : inS (y :: l) r = true :=
  (inS_iff _ _).2 ⟨by unfold inU; omega, mem_cons.2 (.inl (by omega))⟩
theorem inS_cons_neg {y : S41} {l : List S41} {r : Int} (h : ¬ (max y.f0 0 ≤ r ∧ r ≤ min y.f1 1114111)) : inS (y :: l) r = inS l r := by
  rw [Bool.eq_iff_iff, inS_iff, inS_iff, mem_cons]
  unfold inU
  constructor
  · rintro ⟨h1, h2 | h2⟩
    · omega
    · exact ⟨h1, h2⟩
  · rintro ⟨h1, h2⟩
    exact ⟨h1, .inr h2⟩
theorem inS_nil (r : Int) : inS [] r = false := by
  rw [Bool.eq_false_iff, ne_eq, inS_iff]
  exact fun h => mem_nil r h.2
/-! ### put -/
def ins (r : Int) : List Int → List Int
  | [] => [r]
  | a :: t => if a ≥ r then (if a > r then r :: a :: t else a :: t) else a :: ins r t
theorem ins_mem (r x : Int) : ∀ l, x ∈ ins r l ↔ x = r ∨ x ∈ l := by
  intro l
  induction l with
  | nil => simp [ins]
  | cons a t ih =>
    unfold ins
    split
    · split
      · simp
      · have : a = r := by omega
        subst this
        simp
    · simp only [List.mem_cons, ih]
      constructor
      · rintro (h | h | h)
        · exact .inr (.inl h)
        · exact .inl h
        · exact .inr (.inr h)
      · rintro (h | h | h)
        · exact .inr (.inl h)
        · exact .inl h
        · exact .inr (.inr h)
theorem ins_asc (r : Int) : ∀ l : List Int, l.Pairwise (· < ·) → (ins r l).Pairwise (· < ·) := by
  intro l
  induction l with
  | nil => intro _; exact List.pairwise_singleton _ _
  | cons a t ih =>
    intro h
    unfold ins
    have h' := List.pairwise_cons.1 h
    split
    · split
      · rw [List.pairwise_cons]
        refine ⟨fun x hx => ?_, h⟩
        rcases List.mem_cons.1 hx with rfl | hx
        · omega
        · have := h'.1 x hx; omega
      · exact h
    · rw [List.pairwise_cons]
      refine ⟨fun x hx => ?_, ih h'.2⟩
      rcases (ins_mem r x t).1 hx with rfl | hx
      · omega
      · exact h'.1 x hx
theorem rd_int (l : List Int) (i : Nat) (h : i < l.length) : rd l (i : Int) = l[i] := by
  unfold rd
  rw [Int.toNat_natCast, List.getD_eq_getElem?_getD, List.getElem?_eq_getElem h]
  rfl
/-! ### ends -/
/-- A row of starts. -/
structure Good (e : List Int) : Prop where
  asc : e.Pairwise (· < ·)
  rng : ∀ x ∈ e, 0 ≤ x ∧ x ≤ 1114111
  zero : (0 : Int) ∈ e
theorem asc_len' : ∀ (l : List Int) (b : Int), l.Pairwise (· < ·) → (∀ y ∈ l, b ≤ y ∧ y ≤ 1114111) → b ≤ 1114112 → (l.length : Int) ≤ 1114112 - b := by
  intro l
  induction l with
  | nil => intro b _ _ hb; simp only [List.length_nil]; omega
  | cons x l ih =>
    intro b h hl hb
    rw [List.pairwise_cons] at h
    have h4 := hl x (by simp)
    have := ih (b + 1) h.2 (fun y hy => by have := h.1 y hy; have := hl y (by simp [hy]); omega) (by omega)
    rw [List.length_cons]
    omega
theorem Good.len {e : List Int} (h : Good e) : e.length ≤ 1114112 := by
  have := asc_len' e 0 h.asc h.rng (by omega)
  omega
theorem Good.ins {e : List Int} (h : Good e) {r : Int} (hr : 0 ≤ r ∧ r ≤ 1114111) : Good (ins r e) := by
  refine ⟨ins_asc r e h.asc, fun x hx => ?_, (ins_mem _ _ _).2 (.inr h.zero)⟩
  rcases (ins_mem _ _ _).1 hx with rfl | hx
  · exact hr
  · exact h.rng x hx
def addE (y : S41) (e : List Int) : List Int :=
  if max y.f0 0 ≤ min y.f1 1114111 then (if min y.f1 1114111 < 1114111 then ins (min y.f1 1114111 + 1) (ins (max y.f0 0) e) else ins (max y.f0 0) e) else e
def addL : List S41 → List Int → List Int
  | [], e => e
  | y :: t, e => addL t (addE y e)
def addLL : List (List S41) → List Int → List Int
  | [], e => e
  | l :: t, e => addLL t (addL l e)
def cov (e : List Int) (y : S41) : Prop := max y.f0 0 ≤ min y.f1 1114111 → max y.f0 0 ∈ e ∧ (min y.f1 1114111 < 1114111 → min y.f1 1114111 + 1 ∈ e)
theorem addE_good {y : S41} {e : List Int} (h : Good e) : Good (addE y e) ∧ (∀ x ∈ e, x ∈ addE y e) ∧ cov (addE y e) y := by
  unfold addE cov
  split
  · split
    · refine ⟨(h.ins (by omega)).ins (by omega), fun x hx => ?_, fun _ => ⟨?_, fun _ => ?_⟩⟩
      · simp only [ins_mem]; exact .inr (.inr hx)
      · simp [ins_mem]
      · simp [ins_mem]
    · refine ⟨h.ins (by omega), fun x hx => ?_, fun _ => ⟨?_, fun _ => ?_⟩⟩
      · simp only [ins_mem]; exact .inr hx
      · simp [ins_mem]
      · omega
  · exact ⟨h, fun _ h => h, fun _ => by omega⟩
theorem cov_mono {e e' : List Int} (h : ∀ x ∈ e, x ∈ e') {y : S41} (hc : cov e y) : cov e' y := fun hy => ⟨h _ (hc hy).1, fun hz => h _ ((hc hy).2 hz)⟩
theorem addL_good : ∀ (l : List S41) {e : List Int}, Good e → Good (addL l e) ∧ (∀ x ∈ e, x ∈ addL l e) ∧ ∀ y ∈ l, cov (addL l e) y := by
  intro l
  induction l with
  | nil => intro e h; exact ⟨h, fun _ h => h, fun y hy => absurd hy (by simp)⟩
  | cons y t ih =>
    intro e h
    obtain ⟨h1, h2, h3⟩ := addE_good (y := y) h
    obtain ⟨h4, h5, h6⟩ := ih h1
    refine ⟨h4, fun x hx => h5 x (h2 x hx), fun z hz => ?_⟩
    rcases List.mem_cons.1 hz with rfl | hz
    · exact cov_mono h5 h3
    · exact h6 z hz
theorem addLL_good : ∀ (L : List (List S41)) {e : List Int}, Good e → Good (addLL L e) ∧ (∀ x ∈ e, x ∈ addLL L e) ∧ ∀ l ∈ L, ∀ y ∈ l, cov (addLL L e) y := by
  intro L
  induction L with
  | nil => intro e h; exact ⟨h, fun _ h => h, fun y hy => absurd hy (by simp)⟩
  | cons l t ih =>
    intro e h
    obtain ⟨h1, h2, h3⟩ := addL_good l h
    obtain ⟨h4, h5, h6⟩ := ih h1
    refine ⟨h4, fun x hx => h5 x (h2 x hx), fun z hz y hy => ?_⟩
    rcases List.mem_cons.1 hz with rfl | hz
    · exact cov_mono h5 (h3 y hy)
    · exact h6 z hz y hy
theorem good0 : Good [0] := ⟨List.pairwise_singleton _ _, fun x hx => by rw [List.mem_singleton.1 hx]; omega, by simp⟩
theorem rd_L2_at (L : List (List S41)) (i : Nat) (h : i < L.length) : rd_L2 L (i : Int) = L[i] := by
  unfold rd_L2
  rw [Int.toNat_natCast, List.getD_eq_getElem?_getD, List.getElem?_eq_getElem h]
  rfl
def endsR (L : List (List S41)) : List Int := addLL L [0]
theorem endsR_good (L : List (List S41)) : Good (endsR L) ∧ ∀ l ∈ L, ∀ y ∈ l, cov (endsR L) y := ⟨(addLL_good L good0).1, (addLL_good L good0).2.2⟩

/-! ### between two starts nothing changes -/
theorem seg_const {e : List Int} {l : List S41} (hc : ∀ y ∈ l, cov e y) {a x : Int} (ha : 0 ≤ a) (hax : a ≤ x) (hx : x ≤ 1114111) (hno : ∀ z ∈ e, z ≤ a ∨ x < z) : inS l x = inS l a := by
  rw [Bool.eq_iff_iff, inS_iff, inS_iff]
  unfold inU
  constructor
  · rintro ⟨h1, y, hy, h2, h3⟩
    refine ⟨by omega, y, hy, ?_, by omega⟩
    have hcy := (hc y hy (by omega)).1
    rcases hno _ hcy with h | h <;> omega
  · rintro ⟨h1, y, hy, h2, h3⟩
    refine ⟨by omega, y, hy, by omega, ?_⟩
    have hcy := (hc y hy (by omega)).2
    by_cases h4 : min y.f1 1114111 < 1114111
    · rcases hno _ (hcy h4) with h | h <;> omega
    · omega
def nx (e : List Int) (i : Nat) : Int := e.getD i 1114112
theorem nx_at {e : List Int} {i : Nat} (h : i < e.length) : nx e i = e[i] := by
  unfold nx; rw [List.getD_eq_getElem?_getD, List.getElem?_eq_getElem h]; rfl
theorem nx_end {e : List Int} {i : Nat} (h : e.length ≤ i) : nx e i = 1114112 := by
  unfold nx; rw [List.getD_eq_getElem?_getD, List.getElem?_eq_none h]; rfl
theorem Good.nx_lt {e : List Int} (h : Good e) {i : Nat} (hi : i < e.length) : nx e i < nx e (i + 1) ∧ 0 ≤ nx e i ∧ nx e (i + 1) ≤ 1114112 := by
  rw [nx_at hi]
  have h1 := h.rng e[i] (List.getElem_mem _)
  by_cases h2 : i + 1 < e.length
  · rw [nx_at h2]
    have h3 := h.rng e[i + 1] (List.getElem_mem _)
    have := List.pairwise_iff_getElem.1 h.asc i (i + 1) hi h2 (by omega)
    omega
  · rw [nx_end (by omega)]; omega
theorem Good.nx_zero {e : List Int} (h : Good e) : nx e 0 = 0 := by
  obtain ⟨i, hi, he⟩ := List.mem_iff_getElem.1 h.zero
  rw [nx_at (by omega)]
  have h1 := h.rng e[0] (List.getElem_mem _)
  by_cases h0 : i = 0
  · subst h0; exact he
  · have := List.pairwise_iff_getElem.1 h.asc 0 i (by omega) hi (by omega)
    omega
theorem Good.nx_sep {e : List Int} (h : Good e) {i : Nat} (hi : i < e.length) : ∀ z ∈ e, z ≤ nx e i ∨ nx e (i + 1) ≤ z := by
  intro z hz
  obtain ⟨j, hj, rfl⟩ := List.mem_iff_getElem.1 hz
  rw [nx_at hi]
  rcases Nat.lt_trichotomy j i with h1 | h1 | h1
  · have := List.pairwise_iff_getElem.1 h.asc j i hj hi h1; exact .inl (by omega)
  · subst h1; exact .inl (Int.le_refl _)
  · rw [nx_at (show i + 1 < e.length by omega)]
    by_cases h2 : j = i + 1
    · subst h2; exact .inr (Int.le_refl _)
    · have := List.pairwise_iff_getElem.1 h.asc (i + 1) j (by omega) hj (by omega); exact .inr (by omega)

/-! ### join -/
def joinR (o : List S41) (lo hi : Int) : List S41 :=
  match o.getLast? with
  | none => [⟨lo, hi⟩]
  | some p => if p.f1 + 1 = lo then o.dropLast ++ [⟨p.f0, hi⟩] else o ++ [⟨lo, hi⟩]
theorem joinR_nil (lo hi : Int) : joinR [] lo hi = [⟨lo, hi⟩] := rfl
theorem joinR_snoc (o : List S41) (p : S41) (lo hi : Int) : joinR (o ++ [p]) lo hi = if p.f1 + 1 = lo then o ++ [⟨p.f0, hi⟩] else o ++ [p] ++ [⟨lo, hi⟩] := by
  unfold joinR
  rw [List.getLast?_concat]
  simp only [List.dropLast_concat]
theorem joinR_spec {o : List S41} {lo hi : Int} (hc : Can o) (hlo : ∀ y ∈ o, y.f1 < lo) (h0 : 0 ≤ lo) (h1 : lo ≤ hi) (h2 : hi ≤ 1114111) :
    Can (joinR o lo hi) ∧ (∀ y ∈ joinR o lo hi, y.f1 ≤ hi) ∧ ∀ x, mem (joinR o lo hi) x ↔ mem o x ∨ (lo ≤ x ∧ x ≤ hi) := by
  rcases List.eq_nil_or_concat o with rfl | ⟨o, p, rfl⟩
  · rw [joinR_nil]
    refine ⟨can_one ⟨h0, h1, h2⟩, fun y hy => ?_, fun x => ?_⟩
    · rw [List.mem_singleton.1 hy]; exact Int.le_refl _
    · rw [mem_one]; exact ⟨.inr, fun h => h.resolve_left (mem_nil x)⟩
  · rw [List.concat_eq_append] at *
    rw [joinR_snoc]
    have hp := hlo p (by simp)
    obtain ⟨c1, c2, c3⟩ := can_snoc.1 hc
    unfold Ok at c2
    by_cases h : p.f1 + 1 = lo
    · rw [if_pos h]
      refine ⟨can_snoc.2 ⟨c1, by unfold Ok; simp only; omega, c3⟩, fun y hy => ?_, fun x => ?_⟩
      · rcases List.mem_append.1 hy with hy | hy
        · have := hlo y (by simp [hy]); omega
        · rw [List.mem_singleton.1 hy]; exact Int.le_refl _
      · rw [mem_append, mem_append, mem_one, mem_one]
        simp only
        constructor
        · rintro (h3 | h3)
          · exact .inl (.inl h3)
          · by_cases h4 : x ≤ p.f1
            · exact .inl (.inr (by omega))
            · exact .inr (by omega)
        · rintro ((h3 | h3) | h3)
          · exact .inl h3
          · exact .inr (by omega)
          · exact .inr (by omega)
    · rw [if_neg h]
      refine ⟨can_snoc.2 ⟨hc, ⟨h0, h1, h2⟩, fun y hy => ?_⟩, fun y hy => ?_, fun x => ?_⟩
      · simp only
        rcases List.mem_append.1 hy with hy | hy
        · have := c3 y hy; have := hc.1 p (by simp); unfold Ok at this; omega
        · rw [List.mem_singleton.1 hy]; omega
      · rcases List.mem_append.1 hy with hy | hy
        · have := hlo y hy; omega
        · rw [List.mem_singleton.1 hy]; exact Int.le_refl _
      · rw [mem_append (a := o ++ [p]), mem_one (p := ⟨lo, hi⟩)]

/-! ### both -/
def opB (how : Int) (p q : Bool) : Bool := if how = 1 then p || q else if how = 2 then p && q else p && !q
end Go.Proofs.Ytomccgpachmpbaa.Pure
