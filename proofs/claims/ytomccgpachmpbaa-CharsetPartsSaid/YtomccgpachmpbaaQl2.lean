/- What the reference's operations come to: they answer canonical lists with the members that the operation asks for. -/
import Derived.Test.YtomccgpachmpbaaPBx7
import Derived.Test.YtomccgpachmpbaaPBx8
import Derived.Test.YtomccgpachmpbaaPBx10
import Derived.Test.YtomccgpachmpbaaQl1
-- needs: arboristref03_Has arboristref03_put arboristref03_ends arboristref03_join arboristref03_both
namespace Go.Proofs.Ytomccgpachmpbaa.Pure
open Go.RowKit Go.Proofs.Ytomccgpachmpbaa.PB Go.Proofs.YtomccgpachmpbaaW.PrintWords Go.Proofs.YtomccgpachmpbaaW.PrintLast Go.Proofs.YtomccgpachmpbaaW.PrintMore
set_option linter.unusedVariables false

/-! ### Has -/
theorem inS_cons_pos {y : S41} {l : List S41} {r : Int} (h : max y.f0 0 ≤ r ∧ r ≤ min y.f1 1114111) : inS (y :: l) r = true :=
  (inS_iff _ _).2 ⟨by unfold inU; omega, mem_cons.2 (.inl (by omega))⟩
theorem inS_cons_neg {y : S41} {l : List S41} {r : Int} (h : ¬ (max y.f0 0 ≤ r ∧ r ≤ min y.f1 1114111)) : inS (y :: l) r = inS l r := by
  rw [Bool.eq_iff_iff, inS_iff, inS_iff, mem_cons]
  unfold inU
  constructor
  · rintro ⟨h1, h2 | h2⟩
    · omega
    · exact ⟨h1, h2⟩
  · rintro ⟨h1, h2⟩
    exact ⟨h1, .inr h2⟩
theorem inS_nil (r : Int) : inS [] r = false := by
  rw [Bool.eq_false_iff, ne_eq, inS_iff]
  exact fun h => mem_nil r h.2
theorem rhas_l0 (l : List S41) (hl : l.length < 17592186044416) (r : Int) : ∀ (d i : Nat), i + d = l.length → Ev (fun k => arboristref03_Has.l0 k l r (i : Int)) (inS (l.drop i) r) := by
  intro d
  induction d with
  | zero =>
    intro i hi
    rw [List.drop_eq_nil_of_le (by omega), inS_nil]
    refine Ev.step (f := fun _ => some false) (fun k => ?_) (Ev.now _)
    simp only [arboristref03_Has.l0]
    rw [if_neg (by omega)]
  | succ d ih =>
    intro i hi
    have hlt : i < l.length := by omega
    rw [List.drop_eq_getElem_cons hlt]
    by_cases hc : max l[i].f0 0 ≤ r ∧ r ≤ min l[i].f1 1114111
    · rw [inS_cons_pos hc]
      refine Ev.step (f := fun _ => some true) (fun k => ?_) (Ev.now _)
      simp only [arboristref03_Has.l0]
      rw [if_pos (by omega), if_pos (by omega), rd_at l i hlt]
      simp only [arboristref03_cut.f, Option.bind_some, mx_eq, mn_eq]
      rw [if_pos (decide_eq_true (by omega)), if_pos (by omega), if_pos (by omega)]
    · rw [inS_cons_neg hc]
      refine Ev.step (f := fun k => arboristref03_Has.l0 k l r ((i + 1 : Nat) : Int)) (fun k => ?_) (ih (i + 1) (by omega))
      simp only [arboristref03_Has.l0]
      rw [if_pos (by omega), if_pos (by omega), rd_at l i hlt]
      simp only [arboristref03_cut.f, Option.bind_some, mx_eq, mn_eq]
      rw [wrap_succ hlt (by omega)]
      by_cases h1 : max l[i].f0 0 ≤ min l[i].f1 1114111
      · rw [if_pos (decide_eq_true h1)]
        by_cases h2 : r ≥ max l[i].f0 0
        · rw [if_pos h2, if_neg (by omega)]
        · rw [if_neg h2]
      · rw [if_neg (by simpa using h1)]
theorem rhas_ev (l : List S41) (hl : l.length < 17592186044416) (r : Int) : Ev (fun k => arboristref03_Has.f k l r) (inS l r) := by
  unfold arboristref03_Has.f
  have h := rhas_l0 l hl r l.length 0 (by omega)
  rw [List.drop_zero] at h
  exact h

/-! ### put -/
def ins (r : Int) : List Int → List Int
  | [] => [r]
  | a :: t => if a ≥ r then (if a > r then r :: a :: t else a :: t) else a :: ins r t
theorem ins_mem (r x : Int) : ∀ l, x ∈ ins r l ↔ x = r ∨ x ∈ l := by
  intro l
  induction l with
  | nil => simp [ins]
  | cons a t ih =>
    unfold ins
    split
    · split
      · simp
      · have : a = r := by omega
        subst this
        simp
    · simp only [List.mem_cons, ih]
      constructor
      · rintro (h | h | h)
        · exact .inr (.inl h)
        · exact .inl h
        · exact .inr (.inr h)
      · rintro (h | h | h)
        · exact .inr (.inl h)
        · exact .inl h
        · exact .inr (.inr h)
theorem ins_asc (r : Int) : ∀ l : List Int, l.Pairwise (· < ·) → (ins r l).Pairwise (· < ·) := by
  intro l
  induction l with
  | nil => intro _; exact List.pairwise_singleton _ _
  | cons a t ih =>
    intro h
    unfold ins
    have h' := List.pairwise_cons.1 h
    split
    · split
      · rw [List.pairwise_cons]
        refine ⟨fun x hx => ?_, h⟩
        rcases List.mem_cons.1 hx with rfl | hx
        · omega
        · have := h'.1 x hx; omega
      · exact h
    · rw [List.pairwise_cons]
      refine ⟨fun x hx => ?_, ih h'.2⟩
      rcases (ins_mem r x t).1 hx with rfl | hx
      · omega
      · exact h'.1 x hx
theorem rd_int (l : List Int) (i : Nat) (h : i < l.length) : rd l (i : Int) = l[i] := by
  unfold rd
  rw [Int.toNat_natCast, List.getD_eq_getElem?_getD, List.getElem?_eq_getElem h]
  rfl
theorem put_in (l : List Int) (hl : l.length < 17592186044416) (r : Int) : ∀ (d i : Nat) (acc : List Int), i + d = l.length → acc.length ≤ i + 1 → Ev (fun k => arboristref03_put.l0 k l r acc true (i : Int)) (acc ++ l.drop i) := by
  intro d
  induction d with
  | zero =>
    intro i acc hi ha
    rw [List.drop_eq_nil_of_le (by omega), List.append_nil]
    refine Ev.step (f := fun _ => some acc) (fun k => ?_) (Ev.now _)
    simp only [arboristref03_put.l0]
    rw [if_neg (by omega), if_true]
  | succ d ih =>
    intro i acc hi ha
    have hlt : i < l.length := by omega
    rw [List.drop_eq_getElem_cons hlt]
    have h := ih (i + 1) (acc ++ [l[i]]) (by omega) (by rw [List.length_append, List.length_singleton]; omega)
    rw [List.append_assoc] at h
    refine Ev.step (f := fun k => arboristref03_put.j1 k l r acc true (i : Int) false) (fun k => ?_) (Ev.step (fun k => ?_) h)
    · simp only [arboristref03_put.l0]
      rw [if_pos (by omega), if_true]
    · simp only [arboristref03_put.j1]
      rw [if_neg (by simp), if_pos (by omega), if_pos (by omega), if_pos (by omega), rd_int l i hlt, wrap_succ hlt (by omega)]
theorem put_out (l : List Int) (hl : l.length < 17592186044416) (r : Int) : ∀ (d i : Nat) (acc : List Int), i + d = l.length → acc.length ≤ i → Ev (fun k => arboristref03_put.l0 k l r acc false (i : Int)) (acc ++ ins r (l.drop i)) := by
  intro d
  induction d with
  | zero =>
    intro i acc hi ha
    rw [List.drop_eq_nil_of_le (by omega)]
    refine Ev.step (f := fun _ => some (acc ++ [r])) (fun k => ?_) (Ev.now _)
    simp only [arboristref03_put.l0]
    rw [if_neg (by omega), if_neg (by simp), if_pos (by omega)]
  | succ d ih =>
    intro i acc hi ha
    have hlt : i < l.length := by omega
    rw [List.drop_eq_getElem_cons hlt]
    unfold ins
    refine Ev.step (f := fun k => arboristref03_put.j1 k l r acc false (i : Int) (decide (l[i] ≥ r))) (fun k => ?_) ?_
    · simp only [arboristref03_put.l0]
      rw [if_pos (by omega), if_neg (by simp), if_pos (by omega), rd_int l i hlt]
    by_cases h1 : l[i] ≥ r
    · rw [if_pos h1, decide_eq_true h1]
      by_cases h2 : l[i] > r
      · rw [if_pos h2]
        have h := put_in l hl r d (i + 1) (acc ++ [r] ++ [l[i]]) (by omega) (by simp only [List.length_append, List.length_singleton]; omega)
        rw [List.append_assoc, List.append_assoc] at h
        refine Ev.step (f := fun k => arboristref03_put.l0 k l r (acc ++ ([r] ++ [l[i]])) true ((i + 1 : Nat) : Int)) (fun k => ?_) h
        simp only [arboristref03_put.j1]
        rw [if_true, if_pos (by omega), if_pos (by omega), rd_int l i hlt, if_pos h2, if_pos (by omega), Option.bind_some, if_pos (by rw [List.length_append, List.length_singleton]; omega), wrap_succ hlt (by omega), List.append_assoc]
      · rw [if_neg h2]
        have h := put_in l hl r d (i + 1) (acc ++ [l[i]]) (by omega) (by simp only [List.length_append, List.length_singleton]; omega)
        rw [List.append_assoc] at h
        refine Ev.step (f := fun k => arboristref03_put.l0 k l r (acc ++ [l[i]]) true ((i + 1 : Nat) : Int)) (fun k => ?_) h
        simp only [arboristref03_put.j1]
        rw [if_true, if_pos (by omega), if_pos (by omega), rd_int l i hlt, if_neg h2, if_pos (by omega), wrap_succ hlt (by omega)]
    · rw [if_neg h1, decide_eq_false h1]
      have h := ih (i + 1) (acc ++ [l[i]]) (by omega) (by simp only [List.length_append, List.length_singleton]; omega)
      rw [List.append_assoc] at h
      refine Ev.step (f := fun k => arboristref03_put.l0 k l r (acc ++ [l[i]]) false ((i + 1 : Nat) : Int)) (fun k => ?_) h
      simp only [arboristref03_put.j1]
      rw [if_neg (by simp), if_pos (by omega), if_pos (by omega), if_pos (by omega), rd_int l i hlt, wrap_succ hlt (by omega)]
theorem put_ev (l : List Int) (hl : l.length < 17592186044416) (r : Int) : Ev (fun k => arboristref03_put.f k l r) (ins r l) := by
  unfold arboristref03_put.f
  exact put_out l hl r l.length 0 [] (by omega) (by simp)

/-! ### ends -/
/-- A row of starts. -/
structure Good (e : List Int) : Prop where
  asc : e.Pairwise (· < ·)
  rng : ∀ x ∈ e, 0 ≤ x ∧ x ≤ 1114111
  zero : (0 : Int) ∈ e
theorem asc_len' : ∀ (l : List Int) (b : Int), l.Pairwise (· < ·) → (∀ y ∈ l, b ≤ y ∧ y ≤ 1114111) → b ≤ 1114112 → (l.length : Int) ≤ 1114112 - b := by
  intro l
  induction l with
  | nil => intro b _ _ hb; simp only [List.length_nil]; omega
  | cons x l ih =>
    intro b h hl hb
    rw [List.pairwise_cons] at h
    have h4 := hl x (by simp)
    have := ih (b + 1) h.2 (fun y hy => by have := h.1 y hy; have := hl y (by simp [hy]); omega) (by omega)
    rw [List.length_cons]
    omega
theorem Good.len {e : List Int} (h : Good e) : e.length ≤ 1114112 := by
  have := asc_len' e 0 h.asc h.rng (by omega)
  omega
theorem Good.ins {e : List Int} (h : Good e) {r : Int} (hr : 0 ≤ r ∧ r ≤ 1114111) : Good (ins r e) := by
  refine ⟨ins_asc r e h.asc, fun x hx => ?_, (ins_mem _ _ _).2 (.inr h.zero)⟩
  rcases (ins_mem _ _ _).1 hx with rfl | hx
  · exact hr
  · exact h.rng x hx
def addE (y : S41) (e : List Int) : List Int :=
  if max y.f0 0 ≤ min y.f1 1114111 then (if min y.f1 1114111 < 1114111 then ins (min y.f1 1114111 + 1) (ins (max y.f0 0) e) else ins (max y.f0 0) e) else e
def addL : List S41 → List Int → List Int
  | [], e => e
  | y :: t, e => addL t (addE y e)
def addLL : List (List S41) → List Int → List Int
  | [], e => e
  | l :: t, e => addLL t (addL l e)
def cov (e : List Int) (y : S41) : Prop := max y.f0 0 ≤ min y.f1 1114111 → max y.f0 0 ∈ e ∧ (min y.f1 1114111 < 1114111 → min y.f1 1114111 + 1 ∈ e)
theorem addE_good {y : S41} {e : List Int} (h : Good e) : Good (addE y e) ∧ (∀ x ∈ e, x ∈ addE y e) ∧ cov (addE y e) y := by
  unfold addE cov
  split
  · split
    · refine ⟨(h.ins (by omega)).ins (by omega), fun x hx => ?_, fun _ => ⟨?_, fun _ => ?_⟩⟩
      · simp only [ins_mem]; exact .inr (.inr hx)
      · simp [ins_mem]
      · simp [ins_mem]
    · refine ⟨h.ins (by omega), fun x hx => ?_, fun _ => ⟨?_, fun _ => ?_⟩⟩
      · simp only [ins_mem]; exact .inr hx
      · simp [ins_mem]
      · omega
  · exact ⟨h, fun _ h => h, fun _ => by omega⟩
theorem cov_mono {e e' : List Int} (h : ∀ x ∈ e, x ∈ e') {y : S41} (hc : cov e y) : cov e' y := fun hy => ⟨h _ (hc hy).1, fun hz => h _ ((hc hy).2 hz)⟩
theorem addL_good : ∀ (l : List S41) {e : List Int}, Good e → Good (addL l e) ∧ (∀ x ∈ e, x ∈ addL l e) ∧ ∀ y ∈ l, cov (addL l e) y := by
  intro l
  induction l with
  | nil => intro e h; exact ⟨h, fun _ h => h, fun y hy => absurd hy (by simp)⟩
  | cons y t ih =>
    intro e h
    obtain ⟨h1, h2, h3⟩ := addE_good (y := y) h
    obtain ⟨h4, h5, h6⟩ := ih h1
    refine ⟨h4, fun x hx => h5 x (h2 x hx), fun z hz => ?_⟩
    rcases List.mem_cons.1 hz with rfl | hz
    · exact cov_mono h5 h3
    · exact h6 z hz
theorem addLL_good : ∀ (L : List (List S41)) {e : List Int}, Good e → Good (addLL L e) ∧ (∀ x ∈ e, x ∈ addLL L e) ∧ ∀ l ∈ L, ∀ y ∈ l, cov (addLL L e) y := by
  intro L
  induction L with
  | nil => intro e h; exact ⟨h, fun _ h => h, fun y hy => absurd hy (by simp)⟩
  | cons l t ih =>
    intro e h
    obtain ⟨h1, h2, h3⟩ := addL_good l h
    obtain ⟨h4, h5, h6⟩ := ih h1
    refine ⟨h4, fun x hx => h5 x (h2 x hx), fun z hz y hy => ?_⟩
    rcases List.mem_cons.1 hz with rfl | hz
    · exact cov_mono h5 (h3 y hy)
    · exact h6 z hz y hy
theorem good0 : Good [0] := ⟨List.pairwise_singleton _ _, fun x hx => by rw [List.mem_singleton.1 hx]; omega, by simp⟩
theorem rd_L2_at (L : List (List S41)) (i : Nat) (h : i < L.length) : rd_L2 L (i : Int) = L[i] := by
  unfold rd_L2
  rw [Int.toNat_natCast, List.getD_eq_getElem?_getD, List.getElem?_eq_getElem h]
  rfl
theorem ends_l1 (L : List (List S41)) (hL : L.length < 17592186044416) (i : Nat) (hi : i < L.length) (hl : L[i].length < 17592186044416) {r : List Int} : ∀ (d j : Nat) (e : List Int), j + d = L[i].length → Good e →
    Ev (fun k => arboristref03_ends.l0 k L (addL (L[i].drop j) e) ((i + 1 : Nat) : Int)) r → Ev (fun k => arboristref03_ends.l1 k L e (i : Int) (j : Int)) r := by
  intro d
  induction d with
  | zero =>
    intro j e hj he h
    rw [List.drop_eq_nil_of_le (by omega)] at h
    refine Ev.step (fun k => ?_) h
    simp only [arboristref03_ends.l1]
    rw [if_pos (by omega), if_pos (by omega), rd_L2_at L i hi, if_neg (by omega), wrap_succ hi (by omega)]
    rfl
  | succ d ih =>
    intro j e hj he h
    have hlt : j < L[i].length := by omega
    rw [List.drop_eq_getElem_cons hlt] at h
    have h2 := ih (j + 1) (addE L[i][j] e) (by omega) (addE_good he).1 h
    have hlen := he.len
    unfold addE at h2
    by_cases hc : max L[i][j].f0 0 ≤ min L[i][j].f1 1114111
    · rw [if_pos hc] at h2
      have hg1 := (he.ins (r := max L[i][j].f0 0) (by omega)).len
      by_cases hd : min L[i][j].f1 1114111 < 1114111
      · rw [if_pos hd] at h2
        refine Ev.step (f := fun k => (arboristref03_put.f k e (max L[i][j].f0 0)).bind fun t => (arboristref03_put.f k t (min L[i][j].f1 1114111 + 1)).bind fun u => arboristref03_ends.l1 k L u (i : Int) ((j + 1 : Nat) : Int)) (fun k => ?_) (Ev.bind (put_ev e (by omega) _) (Ev.bind (put_ev (ins (max L[i][j].f0 0) e) (by omega) _) h2))
        simp only [arboristref03_ends.l1]
        rw [if_pos (by omega), if_pos (by omega), rd_L2_at L i hi, if_pos (by omega), if_pos (by omega), rd_at _ j hlt]
        simp only [arboristref03_cut.f, Option.bind_some, mx_eq, mn_eq]
        rw [if_pos (decide_eq_true hc), wrap_succ hlt (by omega)]
        simp only [if_pos hd]
        rw [wrap32_of (by omega) (by omega)]
      · rw [if_neg hd] at h2
        refine Ev.step (f := fun k => (arboristref03_put.f k e (max L[i][j].f0 0)).bind fun t => arboristref03_ends.l1 k L t (i : Int) ((j + 1 : Nat) : Int)) (fun k => ?_) (Ev.bind (put_ev e (by omega) _) h2)
        simp only [arboristref03_ends.l1]
        rw [if_pos (by omega), if_pos (by omega), rd_L2_at L i hi, if_pos (by omega), if_pos (by omega), rd_at _ j hlt]
        simp only [arboristref03_cut.f, Option.bind_some, mx_eq, mn_eq]
        rw [if_pos (decide_eq_true hc), wrap_succ hlt (by omega)]
        simp only [if_neg hd]
    · rw [if_neg hc] at h2
      refine Ev.step (f := fun k => arboristref03_ends.l1 k L e (i : Int) ((j + 1 : Nat) : Int)) (fun k => ?_) h2
      simp only [arboristref03_ends.l1]
      rw [if_pos (by omega), if_pos (by omega), rd_L2_at L i hi, if_pos (by omega), if_pos (by omega), rd_at _ j hlt]
      simp only [arboristref03_cut.f, Option.bind_some, mx_eq, mn_eq]
      rw [if_neg (by simpa using hc), wrap_succ hlt (by omega)]
theorem ends_l0 (L : List (List S41)) (hL : L.length < 17592186044416) (hl : ∀ l ∈ L, l.length < 17592186044416) : ∀ (d i : Nat) (e : List Int), i + d = L.length → Good e →
    Ev (fun k => arboristref03_ends.l0 k L e (i : Int)) (addLL (L.drop i) e) := by
  intro d
  induction d with
  | zero =>
    intro i e hi he
    rw [List.drop_eq_nil_of_le (by omega)]
    refine Ev.step (f := fun _ => some e) (fun k => ?_) (Ev.now _)
    simp only [arboristref03_ends.l0]
    rw [if_neg (by omega)]
  | succ d ih =>
    intro i e hi he
    have hlt : i < L.length := by omega
    rw [List.drop_eq_getElem_cons hlt]
    have h := ih (i + 1) (addL L[i] e) (by omega) (addL_good _ he).1
    have h2 := ends_l1 L hL i hlt (hl _ (List.getElem_mem _)) L[i].length 0 e (by omega) he (by rw [List.drop_zero]; exact h)
    refine Ev.step (fun k => ?_) h2
    simp only [arboristref03_ends.l0]
    rw [if_pos (by omega)]
    rfl
def endsR (L : List (List S41)) : List Int := addLL L [0]
theorem ends_ev (L : List (List S41)) (hL : L.length < 17592186044416) (hl : ∀ l ∈ L, l.length < 17592186044416) : Ev (fun k => arboristref03_ends.f k L) (endsR L) := by
  unfold arboristref03_ends.f endsR
  have h := ends_l0 L hL hl L.length 0 [0] (by omega) good0
  rw [List.drop_zero] at h
  exact h
theorem endsR_good (L : List (List S41)) : Good (endsR L) ∧ ∀ l ∈ L, ∀ y ∈ l, cov (endsR L) y := ⟨(addLL_good L good0).1, (addLL_good L good0).2.2⟩

/-! ### between two starts nothing changes -/
theorem seg_const {e : List Int} {l : List S41} (hc : ∀ y ∈ l, cov e y) {a x : Int} (ha : 0 ≤ a) (hax : a ≤ x) (hx : x ≤ 1114111) (hno : ∀ z ∈ e, z ≤ a ∨ x < z) : inS l x = inS l a := by
  rw [Bool.eq_iff_iff, inS_iff, inS_iff]
  unfold inU
  constructor
  · rintro ⟨h1, y, hy, h2, h3⟩
    refine ⟨by omega, y, hy, ?_, by omega⟩
    have hcy := (hc y hy (by omega)).1
    rcases hno _ hcy with h | h <;> omega
  · rintro ⟨h1, y, hy, h2, h3⟩
    refine ⟨by omega, y, hy, by omega, ?_⟩
    have hcy := (hc y hy (by omega)).2
    by_cases h4 : min y.f1 1114111 < 1114111
    · rcases hno _ (hcy h4) with h | h <;> omega
    · omega
def nx (e : List Int) (i : Nat) : Int := e.getD i 1114112
theorem nx_at {e : List Int} {i : Nat} (h : i < e.length) : nx e i = e[i] := by
  unfold nx; rw [List.getD_eq_getElem?_getD, List.getElem?_eq_getElem h]; rfl
theorem nx_end {e : List Int} {i : Nat} (h : e.length ≤ i) : nx e i = 1114112 := by
  unfold nx; rw [List.getD_eq_getElem?_getD, List.getElem?_eq_none h]; rfl
theorem Good.nx_lt {e : List Int} (h : Good e) {i : Nat} (hi : i < e.length) : nx e i < nx e (i + 1) ∧ 0 ≤ nx e i ∧ nx e (i + 1) ≤ 1114112 := by
  rw [nx_at hi]
  have h1 := h.rng e[i] (List.getElem_mem _)
  by_cases h2 : i + 1 < e.length
  · rw [nx_at h2]
    have h3 := h.rng e[i + 1] (List.getElem_mem _)
    have := List.pairwise_iff_getElem.1 h.asc i (i + 1) hi h2 (by omega)
    omega
  · rw [nx_end (by omega)]; omega
theorem Good.nx_zero {e : List Int} (h : Good e) : nx e 0 = 0 := by
  obtain ⟨i, hi, he⟩ := List.mem_iff_getElem.1 h.zero
  rw [nx_at (by omega)]
  have h1 := h.rng e[0] (List.getElem_mem _)
  by_cases h0 : i = 0
  · subst h0; exact he
  · have := List.pairwise_iff_getElem.1 h.asc 0 i (by omega) hi (by omega)
    omega
theorem Good.nx_sep {e : List Int} (h : Good e) {i : Nat} (hi : i < e.length) : ∀ z ∈ e, z ≤ nx e i ∨ nx e (i + 1) ≤ z := by
  intro z hz
  obtain ⟨j, hj, rfl⟩ := List.mem_iff_getElem.1 hz
  rw [nx_at hi]
  rcases Nat.lt_trichotomy j i with h1 | h1 | h1
  · have := List.pairwise_iff_getElem.1 h.asc j i hj hi h1; exact .inl (by omega)
  · subst h1; exact .inl (Int.le_refl _)
  · rw [nx_at (show i + 1 < e.length by omega)]
    by_cases h2 : j = i + 1
    · subst h2; exact .inr (Int.le_refl _)
    · have := List.pairwise_iff_getElem.1 h.asc (i + 1) j (by omega) hj (by omega); exact .inr (by omega)

/-! ### join -/
def joinR (o : List S41) (lo hi : Int) : List S41 :=
  match o.getLast? with
  | none => [⟨lo, hi⟩]
  | some p => if p.f1 + 1 = lo then o.dropLast ++ [⟨p.f0, hi⟩] else o ++ [⟨lo, hi⟩]
theorem joinR_nil (lo hi : Int) : joinR [] lo hi = [⟨lo, hi⟩] := rfl
theorem joinR_snoc (o : List S41) (p : S41) (lo hi : Int) : joinR (o ++ [p]) lo hi = if p.f1 + 1 = lo then o ++ [⟨p.f0, hi⟩] else o ++ [p] ++ [⟨lo, hi⟩] := by
  unfold joinR
  rw [List.getLast?_concat]
  simp only [List.dropLast_concat]
theorem join_f (o : List S41) (lo hi : Int) (hn : o.length < 1114113) (hp : ∀ y ∈ o, Ok y) : arboristref03_join.f o lo hi = some (joinR o lo hi) := by
  unfold arboristref03_join.f
  rcases List.eq_nil_or_concat o with rfl | ⟨o, p, rfl⟩
  · rw [joinR_nil]; rfl
  · rw [List.concat_eq_append] at *
    have hq := hp p (by simp)
    unfold Ok at hq
    have hlen : (o ++ [p]).length = o.length + 1 := by rw [List.length_append, List.length_singleton]
    rw [if_pos (by omega), last_read _ _ (by omega), last_at _ _ (by omega), if_pos (by omega), if_pos (by omega), wrap32_of (by omega) (by omega), joinR_snoc]
    by_cases h : p.f1 + 1 = lo
    · rw [if_pos h, if_pos h]
      simp only [Option.bind_some, List.nil_append, List.length_nil]
      rw [if_pos (by omega), if_pos (by omega), rd_at _ _ (by omega), Int.toNat_natCast, last_set]
      simp
    · rw [if_neg h, if_neg h, if_pos (by omega)]
theorem joinR_spec {o : List S41} {lo hi : Int} (hc : Can o) (hlo : ∀ y ∈ o, y.f1 < lo) (h0 : 0 ≤ lo) (h1 : lo ≤ hi) (h2 : hi ≤ 1114111) :
    Can (joinR o lo hi) ∧ (∀ y ∈ joinR o lo hi, y.f1 ≤ hi) ∧ ∀ x, mem (joinR o lo hi) x ↔ mem o x ∨ (lo ≤ x ∧ x ≤ hi) := by
  rcases List.eq_nil_or_concat o with rfl | ⟨o, p, rfl⟩
  · rw [joinR_nil]
    refine ⟨can_one ⟨h0, h1, h2⟩, fun y hy => ?_, fun x => ?_⟩
    · rw [List.mem_singleton.1 hy]; exact Int.le_refl _
    · rw [mem_one]; exact ⟨.inr, fun h => h.resolve_left (mem_nil x)⟩
  · rw [List.concat_eq_append] at *
    rw [joinR_snoc]
    have hp := hlo p (by simp)
    obtain ⟨c1, c2, c3⟩ := can_snoc.1 hc
    unfold Ok at c2
    by_cases h : p.f1 + 1 = lo
    · rw [if_pos h]
      refine ⟨can_snoc.2 ⟨c1, by unfold Ok; simp only; omega, c3⟩, fun y hy => ?_, fun x => ?_⟩
      · rcases List.mem_append.1 hy with hy | hy
        · have := hlo y (by simp [hy]); omega
        · rw [List.mem_singleton.1 hy]; exact Int.le_refl _
      · rw [mem_append, mem_append, mem_one, mem_one]
        simp only
        constructor
        · rintro (h3 | h3)
          · exact .inl (.inl h3)
          · by_cases h4 : x ≤ p.f1
            · exact .inl (.inr (by omega))
            · exact .inr (by omega)
        · rintro ((h3 | h3) | h3)
          · exact .inl h3
          · exact .inr (by omega)
          · exact .inr (by omega)
    · rw [if_neg h]
      refine ⟨can_snoc.2 ⟨hc, ⟨h0, h1, h2⟩, fun y hy => ?_⟩, fun y hy => ?_, fun x => ?_⟩
      · simp only
        rcases List.mem_append.1 hy with hy | hy
        · have := c3 y hy; have := hc.1 p (by simp); unfold Ok at this; omega
        · rw [List.mem_singleton.1 hy]; omega
      · rcases List.mem_append.1 hy with hy | hy
        · have := hlo y hy; omega
        · rw [List.mem_singleton.1 hy]; exact Int.le_refl _
      · rw [mem_append (a := o ++ [p]), mem_one (p := ⟨lo, hi⟩)]

/-! ### both -/
def opB (how : Int) (p q : Bool) : Bool := if how = 1 then p || q else if how = 2 then p && q else p && !q
theorem both_l0 (a b : List S41) (how : Int) (hh : how = 1 ∨ how = 2 ∨ how = 3) (la : a.length < 17592186044416) (lb : b.length < 17592186044416) (e : List Int) (he : Good e) (ca : ∀ y ∈ a, cov e y) (cb : ∀ y ∈ b, cov e y) :
    ∀ (d i : Nat) (o : List S41), i + d = e.length → Can o → (∀ y ∈ o, y.f1 < nx e i) → (∀ x, mem o x ↔ 0 ≤ x ∧ x < nx e i ∧ opB how (inS a x) (inS b x) = true) →
    ∃ s, Ev (fun k => arboristref03_both.l0 k a b how e o (i : Int)) s ∧ Can s ∧ ∀ x, mem s x ↔ inU x ∧ opB how (inS a x) (inS b x) = true := by
  intro d
  induction d with
  | zero =>
    intro i o hi ho hlo hm
    refine ⟨o, Ev.step (f := fun _ => some o) (fun k => ?_) (Ev.now _), ho, fun x => ?_⟩
    · simp only [arboristref03_both.l0]
      rw [if_neg (by omega)]
    · rw [hm x, nx_end (by omega)]
      unfold inU
      constructor
      · rintro ⟨h1, h2, h3⟩; exact ⟨by omega, h3⟩
      · rintro ⟨h1, h3⟩; exact ⟨by omega, by omega, h3⟩
  | succ d ih =>
    intro i o hi ho hlo hm
    have hlt : i < e.length := by omega
    have hlen := he.len
    obtain ⟨n1, n2, n3⟩ := he.nx_lt hlt
    have hsep := he.nx_sep hlt
    have hconst : ∀ x, nx e i ≤ x → x < nx e (i + 1) → inS a x = inS a (nx e i) ∧ inS b x = inS b (nx e i) := fun x h1 h2 =>
      ⟨seg_const ca n2 h1 (by omega) (fun z hz => by rcases hsep z hz with h | h <;> omega), seg_const cb n2 h1 (by omega) (fun z hz => by rcases hsep z hz with h | h <;> omega)⟩
    -- the call
    have hcall : ∀ s, Ev (fun k => (arboristref03_Has.f k a (nx e i)).bind fun t325 => ((arboristref03_Has.f k b (nx e i)).bind fun t327 => if opB how t325 t327 = true then ((arboristref03_join.f o (nx e i) (nx e (i + 1) - 1)).bind fun t => arboristref03_both.l0 k a b how e t ((i + 1 : Nat) : Int)) else arboristref03_both.l0 k a b how e o ((i + 1 : Nat) : Int))) s →
        Ev (fun k => arboristref03_both.l0 k a b how e o (i : Int)) s := by
      intro s hs
      refine Ev.step (f := fun k => arboristref03_both.j1 k a b how e o (i : Int) (nx e (i + 1) - 1)) (fun k => ?_) (Ev.step (fun k => ?_) hs)
      · simp only [arboristref03_both.l0]
        rw [if_pos (by omega), wrap_succ hlt (by omega)]
        by_cases h2 : i + 1 < e.length
        · rw [if_pos (by omega), if_pos (by omega), rd_int e (i + 1) h2, nx_at h2]
          have := he.rng e[i + 1] (List.getElem_mem _)
          rw [wrap32_of (by omega) (by omega)]
        · rw [if_neg (by omega), nx_end (by omega)]
          rfl
      · simp only [arboristref03_both.j1]
        rw [if_pos (by omega), if_pos (by omega), rd_int e i hlt, ← nx_at hlt, wrap_succ hlt (by omega)]
        congr 1; funext p; congr 1; funext q
        rcases hh with rfl | rfl | rfl <;> cases p <;> cases q <;> rfl
    by_cases hop : opB how (inS a (nx e i)) (inS b (nx e i)) = true
    · obtain ⟨j1, j2, j3⟩ := joinR_spec (lo := nx e i) (hi := nx e (i + 1) - 1) ho hlo n2 (by omega) (by omega)
      obtain ⟨s, h1, h2, h3⟩ := ih (i + 1) (joinR o (nx e i) (nx e (i + 1) - 1)) (by omega) j1 (fun y hy => by have := j2 y hy; omega) (fun x => by
        rw [j3, hm]
        constructor
        · rintro (⟨h1, h2, h3⟩ | ⟨h1, h2⟩)
          · exact ⟨h1, by omega, h3⟩
          · refine ⟨by omega, by omega, ?_⟩
            rw [(hconst x h1 (by omega)).1, (hconst x h1 (by omega)).2]; exact hop
        · rintro ⟨h1, h2, h3⟩
          by_cases h4 : x < nx e i
          · exact .inl ⟨h1, h4, h3⟩
          · exact .inr ⟨by omega, by omega⟩)
      refine ⟨s, hcall s ?_, h2, h3⟩
      refine Ev.bind (rhas_ev a la _) (Ev.bind (rhas_ev b lb _) ?_)
      refine Ev.congr (fun k => ?_) h1
      rw [if_pos hop, join_f o _ _ (by have := can_len ho; omega) ho.1, Option.bind_some]
    · obtain ⟨s, h1, h2, h3⟩ := ih (i + 1) o (by omega) ho (fun y hy => by have := hlo y hy; omega) (fun x => by
        rw [hm]
        constructor
        · rintro ⟨h1, h2, h3⟩
          exact ⟨h1, by omega, h3⟩
        · rintro ⟨h1, h2, h3⟩
          by_cases h4 : x < nx e i
          · exact ⟨h1, h4, h3⟩
          · rw [(hconst x (by omega) h2).1, (hconst x (by omega) h2).2] at h3
            exact absurd h3 hop)
      refine ⟨s, hcall s ?_, h2, h3⟩
      refine Ev.bind (rhas_ev a la _) (Ev.bind (rhas_ev b lb _) ?_)
      refine Ev.congr (fun k => ?_) h1
      rw [if_neg hop]
theorem both_ev (a b : List S41) (how : Int) (hh : how = 1 ∨ how = 2 ∨ how = 3) (la : a.length < 17592186044416) (lb : b.length < 17592186044416) :
    ∃ s, Ev (fun k => arboristref03_both.f k a b how) s ∧ Can s ∧ ∀ x, mem s x ↔ inU x ∧ opB how (inS a x) (inS b x) = true := by
  obtain ⟨he, hc⟩ := endsR_good [a, b]
  obtain ⟨s, h1, h2, h3⟩ := both_l0 a b how hh la lb (endsR [a, b]) he (hc a (by simp)) (hc b (by simp)) (endsR [a, b]).length 0 [] (by omega) can_nil (fun y hy => absurd hy (by simp)) (fun x => by
    rw [he.nx_zero]
    exact ⟨fun h => absurd h (mem_nil x), fun h => by omega⟩)
  refine ⟨s, ?_, h2, h3⟩
  unfold arboristref03_both.f
  refine Ev.bind (ends_ev [a, b] (by simp) (fun l hl => ?_)) h1
  rcases List.mem_cons.1 hl with rfl | hl
  · exact la
  · rw [List.mem_singleton.1 hl]; exact lb
end Go.Proofs.Ytomccgpachmpbaa.Pure
