/- Lists of ranges as sets of whole numbers: membership, canonical lists; what the program's Of, Right, Size and Has come to. -/
import Derived.Test.YtomccgpachmpbaaPBx3
import Derived.Test.YtomccgpachmpbaaPBx4
-- needs: charset_Of charset_Right charset_made charset_Has arboristref03_Same
namespace Go.Proofs.Ytomccgpachmpbaa.Pure
open Go.RowKit Go.Proofs.Ytomccgpachmpbaa.PB Go.Proofs.YtomccgpachmpbaaW.PrintWords Go.Proofs.YtomccgpachmpbaaW.PrintLast Go.Proofs.YtomccgpachmpbaaW.PrintMore
set_option linter.unusedVariables false

theorem Ev_shift {α : Type} {g : Nat → Option α} {r : α} (h : Ev (fun k => g (k + 1)) r) : Ev g r := Ev.step (fun _ => rfl) h
def Ok (x : S41) : Prop := 0 ≤ x.f0 ∧ x.f0 ≤ x.f1 ∧ x.f1 ≤ 1114111
def inU (x : Int) : Prop := 0 ≤ x ∧ x ≤ 1114111
def mem (l : List S41) (x : Int) : Prop := ∃ y ∈ l, y.f0 ≤ x ∧ x ≤ y.f1
def Can (l : List S41) : Prop := (∀ y ∈ l, Ok y) ∧ l.Pairwise (fun a b => a.f1 + 1 < b.f0)

theorem ext41 {x y : S41} (h0 : x.f0 = y.f0) (h1 : x.f1 = y.f1) : x = y := by
  cases x; cases y; simp only at h0 h1; rw [h0, h1]
theorem mx_eq (a b : Int) : mx a b = max a b := by unfold mx; split <;> omega
theorem mn_eq (a b : Int) : mn a b = min a b := by unfold mn; split <;> omega
theorem mem_nil (x : Int) : ¬ mem [] x := by
  rintro ⟨y, hy, _⟩; exact absurd hy (by simp)
theorem mem_cons {y : S41} {l : List S41} {x : Int} : mem (y :: l) x ↔ (y.f0 ≤ x ∧ x ≤ y.f1) ∨ mem l x := by
  constructor
  · rintro ⟨z, hz, h⟩
    rcases List.mem_cons.1 hz with rfl | hz
    · exact .inl h
    · exact .inr ⟨z, hz, h⟩
  · rintro (h | ⟨z, hz, h⟩)
    · exact ⟨y, by simp, h⟩
    · exact ⟨z, by simp [hz], h⟩
theorem mem_append {a b : List S41} {x : Int} : mem (a ++ b) x ↔ mem a x ∨ mem b x := by
  constructor
  · rintro ⟨z, hz, h⟩
    rcases List.mem_append.1 hz with hz | hz
    · exact .inl ⟨z, hz, h⟩
    · exact .inr ⟨z, hz, h⟩
  · rintro (⟨z, hz, h⟩ | ⟨z, hz, h⟩)
    · exact ⟨z, by simp [hz], h⟩
    · exact ⟨z, by simp [hz], h⟩
theorem mem_one {p : S41} {x : Int} : mem [p] x ↔ p.f0 ≤ x ∧ x ≤ p.f1 := by
  rw [mem_cons]
  exact ⟨fun h => h.resolve_right (mem_nil x), .inl⟩
theorem can_nil : Can [] := ⟨fun y hy => absurd hy (by simp), .nil⟩
theorem can_cons {x : S41} {l : List S41} : Can (x :: l) ↔ Ok x ∧ (∀ y ∈ l, x.f1 + 1 < y.f0) ∧ Can l := by
  unfold Can
  rw [List.pairwise_cons]
  constructor
  · rintro ⟨h1, h2, h3⟩
    exact ⟨h1 x (by simp), h2, fun y hy => h1 y (by simp [hy]), h3⟩
  · rintro ⟨h1, h2, h3, h4⟩
    refine ⟨fun y hy => ?_, h2, h4⟩
    rcases List.mem_cons.1 hy with rfl | hy
    · exact h1
    · exact h3 y hy
theorem can_snoc {o : List S41} {p : S41} : Can (o ++ [p]) ↔ Can o ∧ Ok p ∧ ∀ y ∈ o, y.f1 + 1 < p.f0 := by
  unfold Can
  rw [List.pairwise_append]
  constructor
  · rintro ⟨h1, h2, _, h3⟩
    exact ⟨⟨fun y hy => h1 y (by simp [hy]), h2⟩, h1 p (by simp), fun y hy => h3 y hy p (by simp)⟩
  · rintro ⟨⟨h1, h2⟩, h3, h4⟩
    refine ⟨fun y hy => ?_, h2, List.pairwise_singleton _ _, fun y hy z hz => ?_⟩
    · rcases List.mem_append.1 hy with hy | hy
      · exact h1 y hy
      · rw [List.mem_singleton.1 hy]; exact h3
    · rw [List.mem_singleton.1 hz]; exact h4 y hy
theorem can_one {p : S41} (h : Ok p) : Can [p] := can_cons.2 ⟨h, fun y hy => absurd hy (by simp), can_nil⟩
theorem can_mem {l : List S41} (h : Can l) {x : Int} (hx : mem l x) : inU x := by
  obtain ⟨y, hy, h1, h2⟩ := hx
  have := h.1 y hy
  unfold Ok at this; unfold inU; omega
/-- Canonical lists with the same members are the same. -/
theorem can_ext : ∀ {a b : List S41}, Can a → Can b → (∀ x, mem a x ↔ mem b x) → a = b := by
  intro a
  induction a with
  | nil =>
    intro b _ hb h
    cases b with
    | nil => rfl
    | cons y t => exact absurd ((h y.f0).2 (mem_cons.2 (.inl ⟨Int.le_refl _, (can_cons.1 hb).1.2.1⟩))) (mem_nil _)
  | cons x s ih =>
    intro b ha hb h
    cases b with
    | nil => exact absurd ((h x.f0).1 (mem_cons.2 (.inl ⟨Int.le_refl _, (can_cons.1 ha).1.2.1⟩))) (mem_nil _)
    | cons y t =>
      obtain ⟨ax, als, ac⟩ := can_cons.1 ha
      obtain ⟨bx, bs, bc⟩ := can_cons.1 hb
      have lowS : ∀ v, mem s v → x.f1 + 1 < v := by
        rintro v ⟨z, hz, h1, _⟩; have := als z hz; omega
      have lowT : ∀ v, mem t v → y.f1 + 1 < v := by
        rintro v ⟨z, hz, h1, _⟩; have := bs z hz; omega
      unfold Ok at ax bx
      have in1 : ∀ v, (x.f0 ≤ v ∧ v ≤ x.f1) ∨ mem s v ↔ (y.f0 ≤ v ∧ v ≤ y.f1) ∨ mem t v := fun v => by
        rw [← mem_cons, ← mem_cons]; exact h v
      have e0 : x.f0 = y.f0 := by
        have h1 := (in1 x.f0).1 (.inl ⟨Int.le_refl _, by omega⟩)
        have h2 := (in1 y.f0).2 (.inl ⟨Int.le_refl _, by omega⟩)
        have h3 := fun h => lowT x.f0 h
        have h4 := fun h => lowS y.f0 h
        rcases h1 with h1 | h1 <;> rcases h2 with h2 | h2
        · omega
        · have := h4 h2; omega
        · have := h3 h1; omega
        · have := h3 h1; have := h4 h2; omega
      have e1 : x.f1 = y.f1 := by
        rcases Int.lt_trichotomy x.f1 y.f1 with hlt | he | hlt
        · have h1 := (in1 (x.f1 + 1)).2 (.inl (by omega))
          rcases h1 with h1 | h1
          · omega
          · have := lowS _ h1; omega
        · exact he
        · have h1 := (in1 (y.f1 + 1)).1 (.inl (by omega))
          rcases h1 with h1 | h1
          · omega
          · have := lowT _ h1; omega
      obtain rfl := ext41 e0 e1
      have : s = t := ih ac bc (fun v => by
        constructor
        · intro hv
          have h1 := lowS v hv
          rcases (in1 v).1 (.inr hv) with h2 | h2
          · omega
          · exact h2
        · intro hv
          have h1 := lowT v hv
          rcases (in1 v).2 (.inr hv) with h2 | h2
          · omega
          · exact h2)
      rw [this]
theorem can_len' : ∀ (l : List S41) (b : Int), Can l → (∀ y ∈ l, b ≤ y.f0) → b ≤ 1114112 → (l.length : Int) ≤ 1114112 - b := by
  intro l
  induction l with
  | nil => intro b _ _ hb; simp only [List.length_nil]; omega
  | cons x l ih =>
    intro b h hl hb
    obtain ⟨h1, h2, h3⟩ := can_cons.1 h
    unfold Ok at h1
    have h4 := hl x (by simp)
    have := ih (b + 1) h3 (fun y hy => by have := h2 y hy; omega) (by omega)
    rw [List.length_cons]
    omega
theorem can_len {l : List S41} (h : Can l) : l.length ≤ 1114112 := by
  have := can_len' l 0 h (fun y hy => (h.1 y hy).1) (by omega)
  omega

/-! ### reading -/
theorem rd_at (l : List S41) (i : Nat) (h : i < l.length) : rd_T41 l (i : Int) = l[i] := by
  unfold rd_T41
  rw [Int.toNat_natCast, List.getD_eq_getElem?_getD, List.getElem?_eq_getElem h]
  rfl
theorem wrap_succ {i n : Nat} (h : i < n) (hn : n < 4611686018427387904) : wrap64 ((i : Int) + 1) = ((i + 1 : Nat) : Int) := by
  unfold wrap64; omega
theorem wrap_pred {i : Nat} (h : 0 < i) (hn : i < 4611686018427387904) : wrap64 ((i : Int) - 1) = ((i - 1 : Nat) : Int) := by
  unfold wrap64; omega
theorem wrap32_of {x : Int} (h0 : -2147483648 ≤ x) (h1 : x ≤ 2147483647) : wrap32 x = x := by
  unfold wrap32; omega
theorem wrap64_of {x : Int} (h0 : -9223372036854775808 ≤ x) (h1 : x ≤ 9223372036854775807) : wrap64 x = x := by
  unfold wrap64; omega
theorem last_read (o : List S41) (p : S41) (hn : o.length < 4611686018427387903) : rd_T41 (o ++ [p]) (wrap64 (((o ++ [p]).length : Int) - 1)) = p := by
  have e : wrap64 (((o ++ [p]).length : Int) - 1) = (o.length : Int) := by
    rw [List.length_append, List.length_singleton, wrap_pred (by omega) (by omega)]; rfl
  rw [e, rd_at _ _ (by simp)]
  simp
theorem last_at (o : List S41) (p : S41) (hn : o.length < 4611686018427387903) : wrap64 (((o ++ [p]).length : Int) - 1) = (o.length : Int) := by
  rw [List.length_append, List.length_singleton, wrap_pred (by omega) (by omega)]; rfl
theorem last_set (o : List S41) (p q : S41) : (o ++ [p]).set o.length q = o ++ [q] := by
  rw [List.set_append_right _ _ (by omega)]; simp

/-! ### clipping -/
def clip (x : S41) : S41 := ⟨max x.f0 0, min x.f1 1114111⟩
def clipL : List S41 → List S41
  | [] => []
  | y :: r => if max y.f0 0 ≤ min y.f1 1114111 then clip y :: clipL r else clipL r
theorem clipL_ok : ∀ (l : List S41), ∀ y ∈ clipL l, Ok y := by
  intro l
  induction l with
  | nil => intro y hy; exact absurd hy (by simp [clipL])
  | cons z l ih =>
    intro y hy
    unfold clipL at hy
    split at hy
    · rcases List.mem_cons.1 hy with rfl | hy
      · unfold Ok clip; simp only; omega
      · exact ih y hy
    · exact ih y hy
theorem clipL_mem (l : List S41) (x : Int) : mem (clipL l) x ↔ inU x ∧ mem l x := by
  induction l with
  | nil => exact ⟨fun h => absurd h (mem_nil x), fun h => absurd h.2 (mem_nil x)⟩
  | cons z l ih =>
    unfold clipL
    rw [mem_cons]
    split
    · rw [mem_cons, ih]
      unfold clip inU
      simp only
      constructor
      · rintro (h | h)
        · exact ⟨by omega, .inl (by omega)⟩
        · exact ⟨h.1, .inr h.2⟩
      · rintro ⟨h1, h2 | h2⟩
        · exact .inl (by omega)
        · exact .inr ⟨h1, h2⟩
    · rename_i hn
      rw [ih]
      unfold inU
      constructor
      · rintro h; exact ⟨h.1, .inr h.2⟩
      · rintro ⟨h1, h2 | h2⟩
        · omega
        · exact ⟨h1, h2⟩
theorem clipL_len (l : List S41) : (clipL l).length ≤ l.length := by
  induction l with
  | nil => exact Nat.le_refl _
  | cons z l ih =>
    unfold clipL
    split
    · simp only [List.length_cons]; omega
    · simp only [List.length_cons]; omega

/-! ### joining what touches, of ranges in order -/
def mrg1 (o : List S41) (p : S41) : List S41 → List S41
  | [] => o ++ [p]
  | r :: t => if r.f0 ≤ p.f1 + 1 then mrg1 o ⟨p.f0, max p.f1 r.f1⟩ t else mrg1 (o ++ [p]) r t
def mrg : List S41 → List S41
  | [] => []
  | r :: t => mrg1 [] r t
theorem mrg1_spec : ∀ (t o : List S41) (p : S41), Can (o ++ [p]) → (∀ y ∈ t, Ok y) → t.Pairwise (fun a b => a.f0 ≤ b.f0) → (∀ y ∈ t, p.f0 ≤ y.f0) →
    Can (mrg1 o p t) ∧ ∀ x, mem (mrg1 o p t) x ↔ mem (o ++ [p]) x ∨ mem t x := by
  intro t
  induction t with
  | nil => intro o p h _ _ _; exact ⟨h, fun x => ⟨.inl, fun h => h.resolve_right (mem_nil x)⟩⟩
  | cons r t ih =>
    intro o p h hok hp hlo
    obtain ⟨h1, h2, h3⟩ := can_snoc.1 h
    have hr := hok r (by simp)
    have hpr := hlo r (by simp)
    rw [List.pairwise_cons] at hp
    unfold mrg1
    unfold Ok at h2 hr
    split
    · rename_i hle
      have h4 := ih o ⟨p.f0, max p.f1 r.f1⟩ (can_snoc.2 ⟨h1, by unfold Ok; simp only; omega, h3⟩) (fun y hy => hok y (by simp [hy])) hp.2 (fun y hy => hlo y (by simp [hy]))
      refine ⟨h4.1, fun x => ?_⟩
      rw [h4.2, mem_append, mem_append, mem_cons (l := t), mem_one, mem_one]
      simp only
      constructor
      · rintro ((h | h) | h)
        · exact .inl (.inl h)
        · by_cases hx : x ≤ p.f1
          · exact .inl (.inr ⟨h.1, hx⟩)
          · exact .inr (.inl (by omega))
        · exact .inr (.inr h)
      · rintro ((h | h) | h | h)
        · exact .inl (.inl h)
        · exact .inl (.inr (by omega))
        · exact .inl (.inr (by omega))
        · exact .inr h
    · rename_i hgt
      have h4 := ih (o ++ [p]) r (can_snoc.2 ⟨h, by unfold Ok; omega, fun y hy => by
        rcases List.mem_append.1 hy with hy | hy
        · have := h3 y hy; omega
        · rw [List.mem_singleton.1 hy]; omega⟩) (fun y hy => hok y (by simp [hy])) hp.2 hp.1
      refine ⟨h4.1, fun x => ?_⟩
      rw [h4.2, mem_append (a := o ++ [p]), mem_one (p := r), mem_cons (l := t), or_assoc]
theorem mrg_spec (l : List S41) (hok : ∀ y ∈ l, Ok y) (hp : l.Pairwise (fun a b => a.f0 ≤ b.f0)) : Can (mrg l) ∧ ∀ x, mem (mrg l) x ↔ mem l x := by
  cases l with
  | nil => exact ⟨can_nil, fun x => Iff.rfl⟩
  | cons r t =>
    rw [List.pairwise_cons] at hp
    have h := mrg1_spec t [] r (can_one (hok r (by simp))) (fun y hy => hok y (by simp [hy])) hp.2 hp.1
    refine ⟨h.1, fun x => ?_⟩
    show mem (mrg1 [] r t) x ↔ _
    rw [h.2, List.nil_append, mem_one, mem_cons]

/-! ### Of -/
def ofR (l : List S41) : List S41 := mrg (sortR (clipL l))
theorem mem_perm {a b : List S41} (h : a.Perm b) (x : Int) : mem a x ↔ mem b x := by
  unfold mem
  constructor
  · rintro ⟨y, hy, h1⟩; exact ⟨y, h.mem_iff.1 hy, h1⟩
  · rintro ⟨y, hy, h1⟩; exact ⟨y, h.mem_iff.2 hy, h1⟩
theorem ofR_spec (l : List S41) : Can (ofR l) ∧ ∀ x, mem (ofR l) x ↔ inU x ∧ mem l x := by
  have hs := sortR_sorts (clipL l)
  have h := mrg_spec (sortR (clipL l)) (fun y hy => clipL_ok l y (hs.1.mem_iff.1 hy)) hs.2
  exact ⟨h.1, fun x => by rw [← clipL_mem, ← mem_perm hs.1]; exact h.2 x⟩
theorem of_l1 (L : List S41) (hL : L.length < 17592186044416) (hok : ∀ y ∈ L, Ok y) : ∀ (d j : Nat) (o : List S41) (p : S41), j + d = L.length → o.length < j → Ok p →
    Ev (fun k => charset_Of.l1 k (o ++ [p]) L (L.length : Int) (j : Int)) (mrg1 o p (L.drop j)) := by
  intro d
  induction d with
  | zero =>
    intro j o p hj ho hp
    rw [List.drop_eq_nil_of_le (by omega)]
    refine Ev.step (f := fun _ => some (o ++ [p])) (fun k => ?_) (Ev.now _)
    simp only [charset_Of.l1]
    rw [if_neg (by omega)]
  | succ d ih =>
    intro j o p hj ho hp
    have hlt : j < L.length := by omega
    have hr := hok L[j] (List.getElem_mem _)
    rw [List.drop_eq_getElem_cons hlt]
    unfold mrg1
    unfold Ok at hp hr
    by_cases hle : L[j].f0 ≤ p.f1 + 1
    · rw [if_pos hle]
      have h := ih (j + 1) o ⟨p.f0, max p.f1 L[j].f1⟩ (by omega) (by omega) (by unfold Ok; simp only; omega)
      refine Ev.step (f := fun k => charset_Of.l1 k (o ++ [⟨p.f0, max p.f1 L[j].f1⟩]) L (L.length : Int) ((j + 1 : Nat) : Int)) (fun k => ?_) h
      simp only [charset_Of.l1]
      rw [if_pos (by omega), if_pos (by omega), if_pos (by omega), if_pos (by rw [List.length_append, List.length_singleton]; omega)]
      rw [last_read _ _ (by omega), last_at _ _ (by omega), rd_at L j hlt, wrap32_of (by omega) (by omega)]
      rw [if_pos (by omega), if_pos (by rw [List.length_append, List.length_singleton]; omega), if_pos hle, Int.toNat_natCast, last_set, wrap_succ hlt (by omega), mx_eq]
    · rw [if_neg hle]
      have h := ih (j + 1) (o ++ [p]) L[j] (by omega) (by rw [List.length_append, List.length_singleton]; omega) hr
      refine Ev.step (f := fun k => charset_Of.l1 k (o ++ [p] ++ [L[j]]) L (L.length : Int) ((j + 1 : Nat) : Int)) (fun k => ?_) h
      simp only [charset_Of.l1]
      rw [if_pos (by omega), if_pos (by omega), if_pos (by omega), if_pos (by rw [List.length_append, List.length_singleton]; omega)]
      rw [last_read _ _ (by omega), last_at _ _ (by omega), rd_at L j hlt, wrap32_of (by omega) (by omega)]
      rw [if_pos (by omega), if_pos (by rw [List.length_append, List.length_singleton]; omega), if_neg hle, if_pos (by rw [List.length_append, List.length_singleton]; omega), wrap_succ hlt (by omega)]
theorem of_l1_0 (L : List S41) (hL : L.length < 17592186044416) (hok : ∀ y ∈ L, Ok y) : Ev (fun k => charset_Of.l1 k [] L (L.length : Int) 0) (mrg L) := by
  cases L with
  | nil =>
    refine Ev.step (f := fun _ => some []) (fun k => ?_) (Ev.now _)
    simp only [charset_Of.l1]
    rw [if_neg (by simp)]
  | cons r t =>
    have h := of_l1 (r :: t) hL hok t.length 1 [] r (by rw [List.length_cons]; omega) (by simp) (hok r (by simp))
    refine Ev.step (f := fun k => charset_Of.l1 k ([] ++ [r]) (r :: t) ((r :: t).length : Int) ((1 : Nat) : Int)) (fun k => ?_) h
    simp only [charset_Of.l1]
    have e : rd_T41 (r :: t) 0 = r := rfl
    rw [if_pos (by rw [List.length_cons]; omega), if_pos (by omega), if_pos (by rw [List.length_cons]; omega), if_neg (by simp), if_pos (by simp), e]
    rw [show wrap64 (0 + 1) = ((1 : Nat) : Int) by unfold wrap64; omega]
theorem of_l0 (l : List S41) (hl : l.length < 17592186044416) {r : List S41} : ∀ (d i : Nat) (acc : List S41), i + d = l.length → acc.length ≤ i →
    Ev (fun k => (api_Range_32.f (acc ++ clipL (l.drop i))).bind fun t => charset_Of.l1 k [] t ((acc ++ clipL (l.drop i)).length : Int) 0) r →
    Ev (fun k => charset_Of.l0 k acc l (l.length : Int) (i : Int)) r := by
  intro d
  induction d with
  | zero =>
    intro i acc hi ha h
    rw [List.drop_eq_nil_of_le (by omega)] at h
    simp only [clipL, List.append_nil] at h
    refine Ev.step (fun k => ?_) h
    simp only [charset_Of.l0]
    rw [if_neg (by omega)]
  | succ d ih =>
    intro i acc hi ha h
    have hlt : i < l.length := by omega
    rw [List.drop_eq_getElem_cons hlt] at h
    unfold clipL at h
    by_cases hc : max l[i].f0 0 ≤ min l[i].f1 1114111
    · rw [if_pos hc] at h
      refine Ev.step (f := fun k => charset_Of.l0 k (acc ++ [clip l[i]]) l (l.length : Int) ((i + 1 : Nat) : Int)) (fun k => ?_) (ih (i + 1) (acc ++ [clip l[i]]) (by omega) (by rw [List.length_append, List.length_singleton]; omega) (by rw [List.append_assoc]; exact h))
      simp only [charset_Of.l0]
      rw [if_pos (by omega), if_pos (by omega), if_pos (by omega), rd_at l i hlt]
      simp only [charset_cut.f, Option.bind_some, mx_eq, mn_eq]
      rw [if_pos (decide_eq_true hc), if_pos (by omega), wrap_succ hlt (by omega)]
      rfl
    · rw [if_neg hc] at h
      refine Ev.step (f := fun k => charset_Of.l0 k acc l (l.length : Int) ((i + 1 : Nat) : Int)) (fun k => ?_) (ih (i + 1) acc (by omega) (by omega) h)
      simp only [charset_Of.l0]
      rw [if_pos (by omega), if_pos (by omega), if_pos (by omega), rd_at l i hlt]
      simp only [charset_cut.f, Option.bind_some, mx_eq, mn_eq]
      rw [if_neg (by simpa using hc), wrap_succ hlt (by omega)]
theorem of_ev (l : List S41) (hl : l.length < 17592186044416) : Ev (fun k => charset_Of.f k l) (ofR l) := by
  have hs := sortR_sorts (clipL l)
  have hn := clipL_len l
  have hlen := hs.1.length_eq
  have h1 := of_l1_0 (sortR (clipL l)) (by omega) (fun y hy => clipL_ok l y (hs.1.mem_iff.1 hy))
  have h := of_l0 l hl (r := ofR l) l.length 0 [] (by omega) (by simp) (by
    rw [List.drop_zero, List.nil_append]
    refine Ev.congr (f := fun k => charset_Of.l1 k [] (sortR (clipL l)) ((sortR (clipL l)).length : Int) 0) (fun k => ?_) h1
    simp only [api_Range_32.f]
    rw [if_pos (by omega), Option.bind_some, hlen])
  exact h

/-! ### Right -/
instance (x : S41) : Decidable (Ok x) := inferInstanceAs (Decidable (_ ∧ _ ∧ _))
def chk1 (p : S41) : List S41 → Bool
  | [] => true
  | y :: t => if Ok y then (if p.f1 + 1 < y.f0 then chk1 y t else false) else false
def chk : List S41 → Bool
  | [] => true
  | y :: t => if Ok y then chk1 y t else false
theorem chk1_iff : ∀ (l : List S41) (p : S41), Ok p → (chk1 p l = true ↔ Can (p :: l)) := by
  intro l
  induction l with
  | nil => intro p hp; exact ⟨fun _ => can_one hp, fun _ => rfl⟩
  | cons y t ih =>
    intro p hp
    unfold chk1
    rw [can_cons]
    by_cases hy : Ok y
    · rw [if_pos hy]
      by_cases hlt : p.f1 + 1 < y.f0
      · rw [if_pos hlt, ih y hy]
        refine ⟨fun h => ⟨hp, fun z hz => ?_, h⟩, fun h => h.2.2⟩
        rcases List.mem_cons.1 hz with rfl | hz
        · exact hlt
        · have := (can_cons.1 h).2.1 z hz
          unfold Ok at hy; omega
      · rw [if_neg hlt]
        exact ⟨fun h => (by cases h), fun h => absurd (h.2.1 y (by simp)) hlt⟩
    · rw [if_neg hy]
      exact ⟨fun h => (by cases h), fun h => absurd (can_cons.1 h.2.2).1 hy⟩
theorem chk_iff (l : List S41) : chk l = true ↔ Can l := by
  cases l with
  | nil => exact ⟨fun _ => can_nil, fun _ => rfl⟩
  | cons y t =>
    rw [show chk (y :: t) = if Ok y then chk1 y t else false from rfl]
    by_cases hy : Ok y
    · rw [if_pos hy]; exact chk1_iff t y hy
    · rw [if_neg hy]; exact ⟨fun h => (by cases h), fun h => absurd (can_cons.1 h).1 hy⟩
theorem ok_tests (y : S41) : (max y.f0 0 ≤ min y.f1 1114111 ∧ max y.f0 0 = y.f0 ∧ min y.f1 1114111 = y.f1) ↔ Ok y := by
  unfold Ok; omega
theorem right_l1 (l : List S41) (hl : l.length < 17592186044416) : ∀ (d i : Nat) (h0 : 0 < i) (hi : i + d = l.length) (hok : Ok (l[i - 1]'(by omega))),
    Ev (fun k => charset_Right.l0 k l l (l.length : Int) (i : Int)) (chk1 (l[i - 1]'(by omega)) (l.drop i)) := by
  intro d
  induction d with
  | zero =>
    intro i h0 hi hok
    rw [List.drop_eq_nil_of_le (by omega)]
    refine Ev.step (f := fun _ => some true) (fun k => ?_) (Ev.now _)
    simp only [charset_Right.l0]
    rw [if_neg (by omega)]
  | succ d ih =>
    intro i h0 hi hok
    have hlt : i < l.length := by omega
    rw [List.drop_eq_getElem_cons hlt]
    unfold chk1
    have hp := wrap_pred h0 (show i < 4611686018427387904 by omega)
    by_cases hy : Ok l[i]
    · rw [if_pos hy]
      have ht := (ok_tests l[i]).2 hy
      by_cases hg : l[i - 1].f1 + 1 < l[i].f0
      · rw [if_pos hg]
        have h := ih (i + 1) (by omega) (by omega) hy
        refine Ev.step (f := fun k => charset_Right.l0 k l l (l.length : Int) ((i + 1 : Nat) : Int)) (fun k => ?_) h
        simp only [charset_Right.l0]
        rw [if_pos (by omega), if_pos (by omega), if_pos (by omega), rd_at l i hlt]
        simp only [charset_cut.f, Option.bind_some, mx_eq, mn_eq]
        unfold Ok at hok
        rw [if_pos (decide_eq_true ht.1), ht.2.1, ht.2.2, if_neg (by simp), if_pos (by omega), hp, if_pos (by omega), if_pos (by omega), rd_at l (i - 1) (by omega), wrap32_of (by omega) (by omega), if_neg (by omega), wrap_succ hlt (by omega)]
      · rw [if_neg hg]
        refine Ev.step (f := fun _ => some false) (fun k => ?_) (Ev.now _)
        simp only [charset_Right.l0]
        rw [if_pos (by omega), if_pos (by omega), if_pos (by omega), rd_at l i hlt]
        simp only [charset_cut.f, Option.bind_some, mx_eq, mn_eq]
        unfold Ok at hok
        rw [if_pos (decide_eq_true ht.1), ht.2.1, ht.2.2, if_neg (by simp), if_pos (by omega), hp, if_pos (by omega), if_pos (by omega), rd_at l (i - 1) (by omega), wrap32_of (by omega) (by omega), if_pos (by omega)]
    · rw [if_neg hy]
      refine Ev.step (f := fun _ => some false) (fun k => ?_) (Ev.now _)
      simp only [charset_Right.l0]
      rw [if_pos (by omega), if_pos (by omega), if_pos (by omega), rd_at l i hlt]
      simp only [charset_cut.f, Option.bind_some, mx_eq, mn_eq]
      by_cases hc : max l[i].f0 0 ≤ min l[i].f1 1114111
      · rw [if_pos (decide_eq_true hc)]
        rw [if_pos]
        by_cases h1 : max l[i].f0 0 = l[i].f0
        · by_cases h2 : min l[i].f1 1114111 = l[i].f1
          · exact absurd ((ok_tests l[i]).1 ⟨hc, h1, h2⟩) hy
          · simp only [Bool.or_eq_true, Bool.not_eq_true', beq_eq_false_iff_ne]; exact .inr h2
        · simp only [Bool.or_eq_true, Bool.not_eq_true', beq_eq_false_iff_ne]; exact .inl h1
      · rw [if_neg (by simpa using hc)]
theorem right_ev (l : List S41) (hl : l.length < 17592186044416) : Ev (fun k => charset_Right.f k l) (chk l) := by
  unfold charset_Right.f
  cases l with
  | nil =>
    refine Ev.step (f := fun _ => some true) (fun k => ?_) (Ev.now _)
    simp only [charset_Right.l0]
    rw [if_neg (by simp)]
  | cons y t =>
    have e : rd_T41 (y :: t) 0 = y := rfl
    rw [show chk (y :: t) = if Ok y then chk1 y t else false from rfl]
    by_cases hy : Ok y
    · rw [if_pos hy]
      have ht := (ok_tests y).2 hy
      have h := right_l1 (y :: t) hl t.length 1 (by omega) (by rw [List.length_cons]; omega) hy
      refine Ev.step (f := fun k => charset_Right.l0 k (y :: t) (y :: t) ((y :: t).length : Int) ((1 : Nat) : Int)) (fun k => ?_) h
      simp only [charset_Right.l0]
      rw [if_pos (by rw [List.length_cons]; omega), if_pos (by omega), if_pos (by rw [List.length_cons]; omega), e]
      simp only [charset_cut.f, Option.bind_some, mx_eq, mn_eq]
      rw [if_pos (decide_eq_true ht.1), ht.2.1, ht.2.2, if_neg (by simp), if_neg (by omega), show wrap64 (0 + 1) = ((1 : Nat) : Int) by unfold wrap64; omega]
    · rw [if_neg hy]
      refine Ev.step (f := fun _ => some false) (fun k => ?_) (Ev.now _)
      simp only [charset_Right.l0]
      rw [if_pos (by rw [List.length_cons]; omega), if_pos (by omega), if_pos (by rw [List.length_cons]; omega), e]
      simp only [charset_cut.f, Option.bind_some, mx_eq, mn_eq]
      by_cases hc : max y.f0 0 ≤ min y.f1 1114111
      · rw [if_pos (decide_eq_true hc)]
        rw [if_pos]
        by_cases h1 : max y.f0 0 = y.f0
        · by_cases h2 : min y.f1 1114111 = y.f1
          · exact absurd ((ok_tests y).1 ⟨hc, h1, h2⟩) hy
          · simp only [Bool.or_eq_true, Bool.not_eq_true', beq_eq_false_iff_ne]; exact .inr h2
        · simp only [Bool.or_eq_true, Bool.not_eq_true', beq_eq_false_iff_ne]; exact .inl h1
      · rw [if_neg (by simpa using hc)]

/-! ### made, Size, Has -/
def madeR (l : List S41) : List S41 := if chk l = true then l else ofR l
theorem madeR_spec (l : List S41) : Can (madeR l) ∧ ∀ x, mem (madeR l) x ↔ inU x ∧ mem l x := by
  unfold madeR
  split
  · rename_i h
    have hc := (chk_iff l).1 h
    exact ⟨hc, fun x => ⟨fun h => ⟨can_mem hc h, h⟩, fun h => h.2⟩⟩
  · exact ofR_spec l
theorem made_ev (l : List S41) (hl : l.length < 17592186044416) : Ev (fun k => charset_made.f k l) (madeR l) := by
  unfold charset_made.f
  refine Ev.bind (right_ev l hl) ?_
  unfold madeR
  by_cases h : chk l = true
  · rw [if_pos h]; exact Ev.congr (fun k => by rw [if_pos h]) (Ev.now _)
  · rw [if_neg h]
    refine Ev.congr (fun k => by rw [if_neg h]) (Ev.bind (of_ev l hl) (Ev.now _))
def szR : List S41 → Int
  | [] => 0
  | x :: t => (x.f1 - x.f0 + 1) + szR t
theorem hasR_iff (r : Int) : ∀ l : List S41, hasR r l = true ↔ mem l r := by
  intro l
  induction l with
  | nil => exact ⟨fun h => (by cases h), fun h => absurd h (mem_nil r)⟩
  | cons x t ih =>
    unfold hasR
    rw [mem_cons, Bool.or_eq_true, Bool.and_eq_true, decide_eq_true_iff, decide_eq_true_iff, ih]
def inS (l : List S41) (r : Int) : Bool := if r < 0 then false else if r > 1114111 then false else hasR r l
theorem inS_iff (l : List S41) (r : Int) : inS l r = true ↔ inU r ∧ mem l r := by
  unfold inS inU
  split
  · exact ⟨fun h => (by cases h), fun h => by omega⟩
  · split
    · exact ⟨fun h => (by cases h), fun h => by omega⟩
    · rw [hasR_iff]; exact ⟨fun h => ⟨by omega, h⟩, fun h => h.2⟩
theorem has_f (l : List S41) (r : Int) (hl : l.length < 17592186044416) : charset_Has.f l r = some (inS l r) := by
  unfold charset_Has.f inS
  rw [if_pos (by omega)]

/-! ### Same -/
theorem same_l0 (a : List S41) (hl : a.length < 17592186044416) : ∀ (d i : Nat), i + d = a.length → Ev (fun k => arboristref03_Same.l0 k a a (i : Int)) true := by
  intro d
  induction d with
  | zero =>
    intro i hi
    refine Ev.step (f := fun _ => some true) (fun k => ?_) (Ev.now _)
    simp only [arboristref03_Same.l0]
    rw [if_neg (by omega)]
  | succ d ih =>
    intro i hi
    have hlt : i < a.length := by omega
    refine Ev.step (f := fun k => arboristref03_Same.l0 k a a ((i + 1 : Nat) : Int)) (fun k => ?_) (ih (i + 1) (by omega))
    simp only [arboristref03_Same.l0]
    rw [if_pos (by omega), if_pos (by omega), if_pos (by omega), if_neg (by simp), wrap_succ hlt (by omega)]
theorem same_ev (a b : List S41) (h : a = b) (hl : a.length < 17592186044416) : Ev (fun k => arboristref03_Same.f k a b) true := by
  subst h
  unfold arboristref03_Same.f
  refine Ev.congr (f := fun k => arboristref03_Same.l0 k a a ((0 : Nat) : Int)) (fun k => by rw [if_pos rfl]; rfl) (same_l0 a hl a.length 0 (by omega))
end Go.Proofs.Ytomccgpachmpbaa.Pure
