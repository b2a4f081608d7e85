/- What Parts comes to: one canonical set for each key that a rune has, a key being what the sets say of the rune. -/
import Derived.Test.YtomccgpachmpbaaPBx4
import Derived.Test.YtomccgpachmpbaaPBx5
import Derived.Test.YtomccgpachmpbaaPBx6
import Derived.Test.YtomccgpachmpbaaQl2
import Derived.Lib.Bytes
-- needs: charset_Parts charset_Parts_1 slices_Index_string_string slices_Contains_byte_byte
namespace Go.Proofs.Ytomccgpachmpbaa.Pure
open Go.RowKit Go.Proofs.Ytomccgpachmpbaa.PB Go.Proofs.YtomccgpachmpbaaW.PrintWords Go.Proofs.YtomccgpachmpbaaW.PrintLast Go.Proofs.YtomccgpachmpbaaW.PrintMore
set_option linter.unusedVariables false

/-! ### keys -/
def keyB (l : List (List S41)) (r : Int) : List Bool := l.map (fun s => inS s r)
def encB (b : Bool) : Int := if b = true then 49 else 48
def kb (bs : List Bool) : ByteArray := strOfNums (bs.map encB)
theorem kb_toList (bs : List Bool) : (kb bs).data.toList = bs.map (fun b => UInt8.ofNat (encB b).toNat) := by
  unfold kb
  rw [strOfNums_data, List.map_map]; rfl
theorem encB_inj : ∀ a b : Bool, UInt8.ofNat (encB a).toNat = UInt8.ofNat (encB b).toNat → a = b := by decide
theorem map_inj' {α β : Type} {f : α → β} (hf : ∀ a b, f a = f b → a = b) : ∀ {a b : List α}, a.map f = b.map f → a = b := by
  intro a
  induction a with
  | nil => intro b h; cases b with
    | nil => rfl
    | cons _ _ => cases h
  | cons x a ih => intro b h; cases b with
    | nil => cases h
    | cons y b =>
      simp only [List.map_cons, List.cons.injEq] at h
      rw [hf _ _ h.1, ih h.2]
theorem kb_inj {a b : List Bool} (h : (kb a).toList = (kb b).toList) : a = b := by
  have h2 : (kb a).data.toList = (kb b).data.toList := by
    have e1 : ∀ s : List Bool, (kb s).toList = (kb s).data.toList := fun s => by
      unfold kb; rw [Go.Lib.strOfNums_toList, strOfNums_data]; rfl
    rw [← e1, ← e1]; exact h
  rw [kb_toList, kb_toList] at h2
  exact map_inj' encB_inj h2
theorem set_mid (acc r : List Int) (a v : Int) : (acc ++ a :: r).set acc.length v = acc ++ v :: r := by
  rw [List.set_append_right _ _ (Nat.le_refl _), Nat.sub_self]; rfl
theorem key_l0 (l : List (List S41)) (hl : l.length < 17592186044416) (hs : ∀ s ∈ l, s.length < 17592186044416) (r : Int) : ∀ (d i : Nat) (acc : List Int), i + d = l.length → acc.length = i →
    Ev (fun k => charset_Parts_1.l0 k r (acc ++ List.replicate d 0) l (l.length : Int) (i : Int)) (strOfNums (acc ++ (keyB (l.drop i) r).map encB)) := by
  intro d
  induction d with
  | zero =>
    intro i acc hi ha
    rw [List.drop_eq_nil_of_le (by omega)]
    refine Ev.step (f := fun _ => some (strOfNums acc)) (fun k => ?_) (by simp only [keyB, List.map_nil, List.append_nil]; exact Ev.now _)
    simp only [charset_Parts_1.l0, List.replicate_zero, List.append_nil]
    rw [if_neg (by omega)]
  | succ d ih =>
    intro i acc hi ha
    have hlt : i < l.length := by omega
    rw [List.drop_eq_getElem_cons hlt]
    have h := ih (i + 1) (acc ++ [encB (inS l[i] r)]) (by omega) (by rw [List.length_append, List.length_singleton]; omega)
    rw [List.append_assoc, List.append_assoc] at h
    have e : (keyB (l[i] :: l.drop (i + 1)) r).map encB = [encB (inS l[i] r)] ++ (keyB (l.drop (i + 1)) r).map encB := rfl
    rw [e]
    refine Ev.step (fun k => ?_) h
    simp only [charset_Parts_1.l0, List.replicate_succ]
    subst ha
    rw [if_pos (by omega), if_pos (by omega), if_pos (by omega), if_pos (by rw [List.length_append, List.length_cons]; omega), Option.bind_some, rd_L2_at l _ hlt, has_f _ _ (hs _ (List.getElem_mem _)), Option.bind_some, Int.toNat_natCast, set_mid, wrap_succ hlt (by omega)]
    cases inS l[acc.length] r with
    | true => rw [if_pos rfl, set_mid]; rfl
    | false => rw [if_neg (by simp)]; rfl
theorem key_ev (l : List (List S41)) (hl : l.length < 17592186044416) (hs : ∀ s ∈ l, s.length < 17592186044416) (r : Int) : Ev (fun k => charset_Parts_1.f k r l) (kb (keyB l r)) := by
  have h := key_l0 l hl hs r l.length 0 [] (by omega) rfl
  rw [List.drop_zero, List.nil_append, List.nil_append] at h
  refine Ev.congr (fun k => ?_) h
  unfold charset_Parts_1.f
  rw [if_pos (by omega), if_pos (by omega), Int.toNat_natCast]
  rfl
theorem rdOf_at (l : List ByteArray) (i : Nat) (h : i < l.length) : rdOf ByteArray.empty l (i : Int) = l[i] := by
  unfold rdOf
  rw [Int.toNat_natCast, List.getD_eq_getElem?_getD, List.getElem?_eq_getElem h]
  rfl
theorem index_l0 (ks : List ByteArray) (hk : ks.length < 17592186044416) (x : ByteArray) : ∀ (d i : Nat), i + d = ks.length →
    ∃ t, Ev (fun k => slices_Index_string_string.l0 k ks x (ks.length : Int) (i : Int)) t ∧ ((t = -1 ∧ ∀ j (hj : j < ks.length), i ≤ j → x.toList ≠ ks[j].toList) ∨ ∃ j : Nat, t = j ∧ ∃ hj : j < ks.length, x.toList = ks[j].toList) := by
  intro d
  induction d with
  | zero =>
    intro i hi
    refine ⟨-1, Ev.step (f := fun _ => some (-1)) (fun k => ?_) (Ev.now _), .inl ⟨rfl, fun j hj h => by omega⟩⟩
    simp only [slices_Index_string_string.l0]
    rw [if_neg (by omega)]
  | succ d ih =>
    intro i hi
    have hlt : i < ks.length := by omega
    by_cases he : x.toList = ks[i].toList
    · refine ⟨(i : Int), Ev.step (f := fun _ => some (i : Int)) (fun k => ?_) (Ev.now _), .inr ⟨i, rfl, hlt, he⟩⟩
      simp only [slices_Index_string_string.l0]
      rw [if_pos (by omega), if_pos (by omega), if_pos (by omega), rdOf_at ks i hlt, if_pos he]
    · obtain ⟨t, h1, h2⟩ := ih (i + 1) (by omega)
      refine ⟨t, Ev.step (fun k => ?_) h1, ?_⟩
      · simp only [slices_Index_string_string.l0]
        rw [if_pos (by omega), if_pos (by omega), if_pos (by omega), rdOf_at ks i hlt, if_neg he, wrap_succ hlt (by omega)]
      · rcases h2 with ⟨h2, h3⟩ | h2
        · refine .inl ⟨h2, fun j hj hij => ?_⟩
          by_cases h4 : j = i
          · subst h4; exact he
          · exact h3 j hj (by omega)
        · exact .inr h2
theorem has1_l0 (xs : List Int) (hx : xs.length < 17592186044416) : ∀ (d i : Nat), i + d = xs.length →
    ∃ t, Ev (fun k => slices_Index_byte_byte.l0 k xs 49 (xs.length : Int) (i : Int)) t ∧ (decide (t ≥ 0)) = (xs.drop i).contains 49 := by
  intro d
  induction d with
  | zero =>
    intro i hi
    refine ⟨-1, Ev.step (f := fun _ => some (-1)) (fun k => ?_) (Ev.now _), by rw [List.drop_eq_nil_of_le (by omega)]; rfl⟩
    simp only [slices_Index_byte_byte.l0]
    rw [if_neg (by omega)]
  | succ d ih =>
    intro i hi
    have hlt : i < xs.length := by omega
    rw [List.drop_eq_getElem_cons hlt, List.contains_cons]
    by_cases he : (49 : Int) = xs[i]
    · refine ⟨(i : Int), Ev.step (f := fun _ => some (i : Int)) (fun k => ?_) (Ev.now _), ?_⟩
      · simp only [slices_Index_byte_byte.l0]
        rw [if_pos (by omega), if_pos (by omega), if_pos (by omega), rd_int xs i hlt, if_pos he]
      · rw [decide_eq_true (by omega), ← he]; rfl
    · obtain ⟨t, h1, h2⟩ := ih (i + 1) (by omega)
      refine ⟨t, Ev.step (fun k => ?_) h1, ?_⟩
      · simp only [slices_Index_byte_byte.l0]
        rw [if_pos (by omega), if_pos (by omega), if_pos (by omega), rd_int xs i hlt, if_neg he, wrap_succ hlt (by omega)]
      · rw [h2, show ((49 : Int) == xs[i]) = false from beq_eq_false_iff_ne.2 he, Bool.false_or]
theorem bytesI_kb (bs : List Bool) : bytesI (kb bs) = bs.map encB := by
  unfold bytesI
  rw [kb_toList, List.map_map]
  refine List.map_congr_left (fun b _ => ?_)
  cases b <;> rfl
theorem has1_ev (bs : List Bool) (hb : bs.length < 17592186044416) : Ev (fun k => slices_Contains_byte_byte.f k (kb bs) 49) (bs.any id) := by
  obtain ⟨t, h1, h2⟩ := has1_l0 (bs.map encB) (by rw [List.length_map]; exact hb) (bs.map encB).length 0 (by omega)
  have h3 : (bs.map encB).contains 49 = bs.any id := by
    clear h1 h2 hb
    induction bs with
    | nil => rfl
    | cons b t ih => rw [List.map_cons, List.contains_cons, ih, List.any_cons]; cases b <;> rfl
  rw [List.drop_zero, h3] at h2
  unfold slices_Contains_byte_byte.f
  rw [← h2]
  refine Ev.congr (f := fun k => (slices_Index_byte_byte.f k (bytesI (kb bs)) 49).bind fun t => some (decide (t ≥ 0))) (fun k => ?_) (Ev.bind (a := t) ?_ (Ev.now _))
  · rw [if_pos]
    have : (kb bs).size = bs.length := by unfold kb; rw [strOfNums_size, List.length_map]
    omega
  · unfold slices_Index_byte_byte.f
    rw [bytesI_kb]
    exact h1

/-! ### the starts -/
def fr : List S41 → List Int
  | [] => []
  | y :: t => y.f0 :: ((if y.f1 < 1114111 then [y.f1 + 1] else []) ++ fr t)
def frA : List (List S41) → List Int
  | [] => []
  | s :: t => fr (madeR s) ++ frA t
theorem fr_len : ∀ l, (fr l).length ≤ 2 * l.length := by
  intro l
  induction l with
  | nil => simp [fr]
  | cons y t ih =>
    simp only [fr, List.length_cons, List.length_append]
    split <;> simp only [List.length_cons, List.length_nil] <;> omega
theorem frA_len : ∀ l, (frA l).length ≤ 2228224 * l.length := by
  intro l
  induction l with
  | nil => simp [frA]
  | cons s t ih =>
    simp only [frA, List.length_cons, List.length_append]
    have := fr_len (madeR s); have := can_len (madeR_spec s).1
    omega
theorem fr_rng {l : List S41} (h : ∀ y ∈ l, Ok y) : ∀ x ∈ fr l, 0 ≤ x ∧ x ≤ 1114111 := by
  induction l with
  | nil => intro x hx; exact absurd hx (by simp [fr])
  | cons y t ih =>
    intro x hx
    have hy := h y (by simp)
    unfold Ok at hy
    simp only [fr, List.mem_cons, List.mem_append] at hx
    rcases hx with rfl | hx | hx
    · omega
    · split at hx
      · rw [List.mem_singleton.1 hx]; omega
      · exact absurd hx (by simp)
    · exact ih (fun z hz => h z (by simp [hz])) x hx
theorem frA_rng : ∀ l, ∀ x ∈ frA l, 0 ≤ x ∧ x ≤ 1114111 := by
  intro l
  induction l with
  | nil => intro x hx; exact absurd hx (by simp [frA])
  | cons s t ih =>
    intro x hx
    rcases List.mem_append.1 hx with hx | hx
    · exact fr_rng (madeR_spec s).1.1 x hx
    · exact ih x hx
theorem fr_cov {l : List S41} {e : List Int} (h : ∀ y ∈ l, Ok y) (he : ∀ x ∈ fr l, x ∈ e) : ∀ y ∈ l, cov e y := by
  induction l with
  | nil => intro y hy; exact absurd hy (by simp)
  | cons z t ih =>
    intro y hy
    rcases List.mem_cons.1 hy with rfl | hy
    · have hz := h y (by simp)
      unfold Ok at hz
      intro _
      rw [show max y.f0 0 = y.f0 by omega, show min y.f1 1114111 = y.f1 by omega]
      refine ⟨he _ (by simp [fr]), fun hlt => he _ ?_⟩
      simp only [fr, List.mem_cons, List.mem_append]
      rw [if_pos hlt]
      exact .inr (.inl (by simp))
    · exact ih (fun z hz => h z (by simp [hz])) (fun x hx => he x (by simp only [fr, List.mem_cons, List.mem_append]; exact .inr (.inr hx))) y hy
theorem starts_l1 (l0 l : List (List S41)) (i : Nat) (hi : i < l.length) (hl : l.length < 1000000) (s : List S41) (hs : Can s) {r : List (List S41)} : ∀ (d j : Nat) (acc : List Int), j + d = s.length → acc.length + 2 * d < 35184372088832 →
    Ev (fun k => charset_Parts.l0 k l0 (acc ++ fr (s.drop j)) l (l.length : Int) ((i + 1 : Nat) : Int)) r → Ev (fun k => charset_Parts.l1 k l0 acc l (l.length : Int) (i : Int) s (s.length : Int) (j : Int)) r := by
  have hn := can_len hs
  intro d
  induction d with
  | zero =>
    intro j acc hj ha h
    rw [List.drop_eq_nil_of_le (by omega)] at h
    simp only [fr, List.append_nil] at h
    refine Ev.step (fun k => ?_) h
    simp only [charset_Parts.l1]
    rw [if_neg (by omega), wrap_succ hi (by omega)]
  | succ d ih =>
    intro j acc hj ha h
    have hlt : j < s.length := by omega
    have hy := hs.1 _ (List.getElem_mem hlt)
    unfold Ok at hy
    rw [List.drop_eq_getElem_cons hlt] at h
    simp only [fr] at h
    by_cases hm : s[j].f1 < 1114111
    · rw [if_pos hm] at h
      have h2 := ih (j + 1) (acc ++ [s[j].f0] ++ [s[j].f1 + 1]) (by omega) (by simp only [List.length_append, List.length_singleton]; omega) (by simpa using h)
      refine Ev.step (fun k => ?_) h2
      simp only [charset_Parts.l1]
      rw [if_pos (by omega), if_pos (by omega), if_pos (by omega), if_pos (by omega), rd_at s j hlt, Option.bind_some, if_pos hm, if_pos (by rw [List.length_append, List.length_singleton]; omega), wrap32_of (by omega) (by omega), wrap_succ hlt (by omega)]
    · rw [if_neg hm] at h
      have h2 := ih (j + 1) (acc ++ [s[j].f0]) (by omega) (by simp only [List.length_append, List.length_singleton]; omega) (by simpa using h)
      refine Ev.step (fun k => ?_) h2
      simp only [charset_Parts.l1]
      rw [if_pos (by omega), if_pos (by omega), if_pos (by omega), if_pos (by omega), rd_at s j hlt, Option.bind_some, if_neg hm, wrap_succ hlt (by omega)]
theorem starts_l0 (l : List (List S41)) (hl : l.length < 1000000) (hs : ∀ s ∈ l, s.length < 17592186044416) {r : List (List S41)} : ∀ (d i : Nat) (acc : List Int), i + d = l.length → acc.length ≤ 2228224 * i + 1 →
    Ev (fun k => charset_Parts.l0 k l (acc ++ frA (l.drop i)) l (l.length : Int) (l.length : Int)) r → Ev (fun k => charset_Parts.l0 k l acc l (l.length : Int) (i : Int)) r := by
  intro d
  induction d with
  | zero =>
    intro i acc hi ha h
    rw [List.drop_eq_nil_of_le (by omega)] at h
    simp only [frA, List.append_nil] at h
    obtain rfl : i = l.length := by omega
    exact h
  | succ d ih =>
    intro i acc hi ha h
    have hlt : i < l.length := by omega
    rw [List.drop_eq_getElem_cons hlt] at h
    simp only [frA] at h
    rw [← List.append_assoc] at h
    have hc := (madeR_spec l[i]).1
    have hn := can_len hc
    have hf := fr_len (madeR l[i])
    have h2 := ih (i + 1) (acc ++ fr (madeR l[i])) (by omega) (by rw [List.length_append]; omega) h
    have h3 := starts_l1 l l i hlt hl (madeR l[i]) hc (madeR l[i]).length 0 acc (by omega) (by omega) (by rw [List.drop_zero]; exact h2)
    refine Ev.step (f := fun k => (charset_made.f k l[i]).bind fun t => charset_Parts.l1 k l acc l (l.length : Int) (i : Int) t (t.length : Int) 0) (fun k => ?_) (Ev.bind (made_ev l[i] (hs _ (List.getElem_mem _))) h3)
    simp only [charset_Parts.l0]
    rw [if_pos (by omega), if_pos (by omega), if_pos (by omega), rd_L2_at l i hlt]
end Go.Proofs.Ytomccgpachmpbaa.Pure
