-- WRITTEN BY pp.py out of the translation; Lean checks it.
import Derived.Test.YtomccgpachmpbaaPBx0
import Derived.Test.YtomccgpachmpbaaPBx2
namespace Go.Proofs.Ytomccgpachmpbaa.PB
open Go.RowKit Go.Proofs.YtomccgpachmpbaaW.PrintWords Go.Proofs.YtomccgpachmpbaaW.PrintLast Go.Proofs.YtomccgpachmpbaaW.PrintMore
attribute [local go_sem] max2_int min2_int max_two min_two max_three min_three max_four min_four   -- for this text's walks alone
set_option linter.unusedVariables false
set_option linter.unusedSimpArgs false

/-! ### slices_Sort_rune_rune: function 40 -/
/-! what the sort makes of a row of runes: there is one answer -/
def insI (x : Int) : List Int → List Int
  | [] => [x]
  | y :: r => if x ≤ y then x :: y :: r else y :: insI x r
def sortI : List Int → List Int
  | [] => []
  | x :: r => insI x (sortI r)
theorem insI_perm (x : Int) : ∀ l, (insI x l).Perm (x :: l)
  | [] => .refl _
  | y :: r => by
    unfold insI
    split
    · exact .refl _
    · exact ((insI_perm x r).cons y).trans (.swap x y r)
theorem sortI_perm : ∀ l, (sortI l).Perm l
  | [] => .refl _
  | x :: r => (insI_perm x _).trans ((sortI_perm r).cons x)
theorem insI_pair (x : Int) : ∀ l, l.Pairwise (fun a b : Int => a ≤ b) → (insI x l).Pairwise (fun a b : Int => a ≤ b)
  | [], _ => by simp [insI]
  | y :: r, h => by
    unfold insI
    rw [List.pairwise_cons] at h
    split
    · rename_i hxy
      rw [List.pairwise_cons]
      refine ⟨fun z hz => ?_, List.pairwise_cons.2 h⟩
      rcases List.mem_cons.1 hz with rfl | hz
      · exact hxy
      · exact Int.le_trans hxy (h.1 z hz)
    · rename_i hxy
      rw [List.pairwise_cons]
      refine ⟨fun z hz => ?_, insI_pair x r h.2⟩
      rcases List.mem_cons.1 ((insI_perm x r).mem_iff.1 hz) with rfl | hz
      · omega
      · exact h.1 z hz
theorem sortI_pair : ∀ l, (sortI l).Pairwise (fun a b : Int => a ≤ b)
  | [] => .nil
  | x :: r => insI_pair x _ (sortI_pair r)
def slices_Sort_rune_rune.f (l0 : List Int) : Option (List Int) := if l0.length < 4611686018427387904 then some (sortI l0) else none
theorem ownS {w : World} {base g : Nat} {P : Nat → Prop} {l : List Int} {cur : Array Value} (hb : w.heap[g]? = some (.cells cur 21 (0, 0))) (inner : List Value) (ht : cur.toList.take (l.length * 1) = inner) (hr : Reps ((Kd.int .i32).M w base P) 1 l inner) :
    Go.Sort.Holds (Value.int .i32) w g 0 l.toArray := by
  intro t ht'
  have hlt : t < l.length := by simpa using ht'
  refine ⟨?_, by simp [World.frozen?, hb]⟩
  have h1 : (inner.drop (t * 1)).take 1 = [.int .i32 l[t]] := hr.2 t l[t] (List.getElem?_eq_getElem hlt)
  have h3 : cur[t]? = some (.int .i32 l[t]) := by
    have h4 : ((inner.drop (t * 1)).take 1)[0]? = some (.int .i32 l[t]) := by rw [h1]; rfl
    rw [List.getElem?_take_of_lt (by omega), List.getElem?_drop, show t * 1 + 0 = t by omega, ← ht, List.getElem?_take_of_lt (by omega), Array.getElem?_toList] at h4
    exact h4
  simp only [World.cell?, hb, Nat.zero_add, Option.isSome_none, Bool.false_eq_true, if_false]
  rw [h3]
  simp [hlt]
theorem sorted_is (l : List Int) (d : Array Int) (hp : Go.Sort.PermIn 0 l.length l.toArray d) (hs : Go.Sort.SortedIn Go.Sort.ltInt 0 l.length d) : d = (sortI l).toArray := by
  have hz : d.size = l.length := by rw [hp.1]; simp
  have e1 : d.extract 0 l.length = d := by rw [← hz]; simp
  have e2 : l.toArray.extract 0 l.length = l.toArray := by simp
  have h3 := hp.2.2
  rw [e1, e2] at h3
  have h4 : d.toList = sortI l := by
    refine List.Perm.eq_of_pairwise (le := fun a b : Int => a ≤ b) (fun a b _ _ h1 h2 => Int.le_antisymm h1 h2) ?_ (sortI_pair l) (h3.trans (sortI_perm l).symm)
    rw [List.pairwise_iff_getElem]
    intro i j hi hj hij
    have h := hs i j (Nat.zero_le _) hij (by rw [← hz]; simpa using hj)
    rw [Go.Sort.ltInt, decide_eq_false_iff_not, getElem!_pos d j (by simpa using hj), getElem!_pos d i (by simpa using hi)] at h
    simp only [Array.getElem_toList]
    omega
  rw [← h4]
theorem repsS (w : World) (base : Nat) (P : Nat → Prop) (r : List Int) : Reps ((Kd.int .i32).M w base P) 1 r (r.map (Value.int .i32)) := by
  refine ⟨by simp, fun j p hp => ?_⟩
  obtain ⟨hj, rfl⟩ := List.getElem?_eq_some_iff.1 hp
  show ((r.map (Value.int .i32)).drop (j * 1)).take 1 = [.int .i32 r[j]]
  rw [Nat.mul_one, List.drop_eq_getElem_cons (by simpa using hj)]
  simp
theorem slices_Sort_rune_rune.calls (P0_ : Nat → Prop) (u9000_ : Value) (l0 : List Int) (r : List Int) (w0 w : World) (hB : Below w0.heap.size w0 w) (ho0 : Kd.R (Kd.int .i32) 21 w w0.heap.size P0_ u9000_ l0) (h : slices_Sort_rune_rune.f l0 = some r) :
    Calls Try.prog 40 #[u9000_] w fun e w' => e = .returned (.tuple #[]) ∧ Kd.R (Kd.int .i32) 21 w' w0.heap.size (fun k_ => (P0_ k_ ∨ w.heap.size ≤ k_)) u9000_ r ∧ Below w0.heap.size w0 w' ∧ Kept w w' (fun k_ => P0_ k_) := by
  unfold slices_Sort_rune_rune.f at h
  split at h
  case isFalse => cases h
  rename_i hml
  obtain rfl := Option.some.inj h
  clear h
  obtain ⟨hok, inner, ho, hr⟩ := id ho0
  rcases ho.2 with ⟨rfl, hn⟩ | ⟨g, cap, cur, rfl, hg, hb, h1, h2, h3, h4⟩
  · obtain rfl : l0 = [] := List.length_eq_zero_iff.1 hn
    refine (Go.Proofs.YtomccgpachmpbaaSo.sort_none w).mono ?_
    rintro e w' ⟨rfl, rfl⟩
    exact ⟨rfl, Kd.R_mono ho0 (fun _ hk => .inl hk), hB, Kept.refl _ _⟩
  · have hlt : g < w.heap.size := (Array.getElem?_eq_some_iff.1 hb).1
    have hH : Go.Sort.Holds (Value.int .i32) w g 0 l0.toArray := ownS hb inner h4 hr
    have hcon := Go.Proofs.YtomccgpachmpbaaSo.sort_row (w0 := w) (blk := g) (off := 0) (N := l0.length) cap l0.toArray w (Go.Proofs.YtomccgpachmpbaaSo.St.start hH (by simp) hlt) hml
    refine Calls.mono hcon ?_
    rintro e w' ⟨rfl, d', H, hP, hS⟩
    obtain rfl := sorted_is l0 d' hP hS
    obtain ⟨m, os, rfl⟩ := H.way
    have hlen : (sortI l0).length = l0.length := (sortI_perm l0).length_eq
    have hgr := grown_row (w := w) (g := g) (m := m) (os := os) (Value.int .i32) (sortI l0).toArray
    have hbk := heap_row (m := m) (os := os) (Value.int .i32) (sortI l0).toArray hb
    refine ⟨rfl, ⟨fun k hk => .inl (hok k hk), (sortI l0).map (Value.int .i32), ⟨by rw [List.length_map]; exact (Nat.mul_one _).symm, .inr ⟨g, cap, _, by rw [hlen], hg, hbk, by omega, h2, by simp [Go.Sort.putCells, h3], ?_⟩⟩, repsS _ _ _ _⟩, ?_, ?_⟩
    · have ht := take_row (Value.int .i32) cur (sortI l0).toArray (by simp only [List.size_toArray]; rw [hlen, h3]; exact Nat.le_trans h1 (by show cap ≤ cap * 1; omega))
      rw [show (sortI l0).length * (Kd.int .i32).sz = (sortI l0).toArray.size from by simp; exact Nat.mul_one _, ht]
    · exact hB.grown hgr hB.size (fun k hk => by injection hk with hk; omega)
    · exact Kept.of_grown hgr (Kept.refl _ _) (fun k hk => .inl (by injection hk with hk; subst hk; exact hok g rfl))


/-! ### slices_Compact_rune_rune: function 41 -/
def slices_Compact_rune_rune.f (l0 : List Int) : Option (List Int) := if l0.length < 4611686018427387904 then some (Lib.compactUpTo l0.toArray l0.length) else none
theorem ownI32 {w : World} {base g : Nat} {P : Nat → Prop} {l : List Int} {cur : Array Value} (hb : w.heap[g]? = some (.cells cur 21 (0, 0))) (inner : List Value) (ht : cur.toList.take (l.length * 1) = inner) (hr : Reps ((Kd.int .i32).M w base P) 1 l inner) :
    Go.Sort.Holds (Value.int .i32) w g 0 l.toArray := by
  intro t ht'
  have hlt : t < l.length := by simpa using ht'
  refine ⟨?_, by simp [World.frozen?, hb]⟩
  have h1 : (inner.drop (t * 1)).take 1 = [.int .i32 l[t]] := hr.2 t l[t] (List.getElem?_eq_getElem hlt)
  have h3 : cur[t]? = some (.int .i32 l[t]) := by
    have h4 : ((inner.drop (t * 1)).take 1)[0]? = some (.int .i32 l[t]) := by rw [h1]; rfl
    rw [List.getElem?_take_of_lt (by omega), List.getElem?_drop, show t * 1 + 0 = t by omega, ← ht, List.getElem?_take_of_lt (by omega), Array.getElem?_toList] at h4
    exact h4
  simp only [World.cell?, hb, Nat.zero_add, Option.isSome_none, Bool.false_eq_true, if_false]
  rw [h3]
  simp [hlt]
theorem repsI32 (w : World) (base : Nat) (P : Nat → Prop) (r : List Int) : Reps ((Kd.int .i32).M w base P) 1 r (r.map (Value.int .i32)) := by
  refine ⟨by simp, fun j p hp => ?_⟩
  obtain ⟨hj, rfl⟩ := List.getElem?_eq_some_iff.1 hp
  show ((r.map (Value.int .i32)).drop (j * 1)).take 1 = [.int .i32 r[j]]
  rw [Nat.mul_one, List.drop_eq_getElem_cons (by simpa using hj)]
  simp
theorem compact_none (w : World) : Calls Try.prog 41 #[.slice none 0 0] w fun e w' => e = .returned (.slice none 0 0) ∧ w' = w := by
  go_enter Try.func41, Try.ntmps41
  go_wp2
  go_ret
  exact ⟨rfl, rfl⟩
theorem slices_Compact_rune_rune.calls (P0_ : Nat → Prop) (u9000_ : Value) (l0 : List Int) (r : List Int) (w0 w : World) (hB : Below w0.heap.size w0 w) (ho0 : Kd.R (Kd.int .i32) 21 w w0.heap.size P0_ u9000_ l0) (h : slices_Compact_rune_rune.f l0 = some r) :
    Calls Try.prog 41 #[u9000_] w fun e w' => ∃ v0_ : Value, e = .returned (v0_) ∧ Kd.R (Kd.int .i32) 21 w' w0.heap.size (fun k_ => (P0_ k_ ∨ w.heap.size ≤ k_)) v0_ r ∧ Below w0.heap.size w0 w' ∧ Kept w w' (fun k_ => P0_ k_) := by
  unfold slices_Compact_rune_rune.f at h
  split at h
  case isFalse => cases h
  rename_i hml
  obtain rfl := Option.some.inj h
  clear h
  obtain ⟨hok, inner, ho, hr⟩ := id ho0
  rcases ho.2 with ⟨rfl, hn⟩ | ⟨g, cap, cur, rfl, hg, hb, h1, h2, h3, h4⟩
  · obtain rfl : l0 = [] := List.length_eq_zero_iff.1 hn
    refine (compact_none w).mono ?_
    rintro e w' ⟨rfl, rfl⟩
    exact ⟨_, rfl, Kd.R_mono ho0 (fun _ hk => .inl hk), hB, Kept.refl _ _⟩
  · have hlt : g < w.heap.size := (Array.getElem?_eq_some_iff.1 hb).1
    have hH : Go.Sort.Holds (Value.int .i32) w g 0 l0.toArray := ownI32 hb inner h4 hr
    have hcon := Go.Proofs.AnyE.slices_Compact Try.compactRn (Value.int .i32) (fun _ => rfl) (Go.Proofs.EqlAt.intD _ _ _) (Go.Proofs.NeqAt.intD _ _ _) 0 Try.zeroValue21 g 0 cap l0.toArray w hH (by simp; omega) (by simpa using h1)
    refine Calls.mono hcon ?_
    rintro e w' ⟨rfl, q, rfl⟩
    have hsz : l0.toArray.size = l0.length := by simp
    rw [hsz]
    generalize hc : Lib.compactUpTo l0.toArray l0.length = c
    have hcl : c.length ≤ l0.length := by
      rw [← hc]; unfold Lib.compactUpTo
      rw [List.length_map]
      exact Nat.le_trans (List.length_filter_le _ _) (by simp)
    generalize hF : (c ++ List.replicate (l0.length - c.length) 0).toArray = F
    have hFs : F.size = l0.length := by rw [← hF]; simp; omega
    have hgr := grown_row (w := w) (g := g) (m := q) (os := #[]) (Value.int .i32) F
    have hbk := heap_row (m := q) (os := #[]) (Value.int .i32) F hb
    rw [Go.Sort.grow_empty] at hgr hbk
    refine ⟨_, rfl, ⟨fun k hk => .inl (hok k hk), c.map (Value.int .i32), ⟨by rw [List.length_map]; exact (Nat.mul_one _).symm, .inr ⟨g, cap, _, rfl, hg, hbk, by omega, h2, by simp [Go.Sort.putCells, h3], ?_⟩⟩, repsI32 _ _ _ _⟩, ?_, ?_⟩
    · have ht := take_row (Value.int .i32) cur F (by rw [hFs, h3]; exact Nat.le_trans h1 (by show cap ≤ cap * 1; omega))
      have h5 : (c.length * (Kd.int .i32).sz) = c.length := Nat.mul_one _
      rw [h5]
      have h6 : ((Go.Sort.putCells (Value.int .i32) 0 F cur).toList.take F.size).take c.length = (Go.Sort.putCells (Value.int .i32) 0 F cur).toList.take c.length := by rw [List.take_take, Nat.min_eq_left (by omega)]
      rw [← h6, ht, ← hF]
      simp
    · exact hB.grown hgr hB.size (fun k hk => by injection hk with hk; omega)
    · exact Kept.of_grown hgr (Kept.refl _ _) (fun k hk => .inl (by injection hk with hk; subst hk; exact hok g rfl))


/-! ### charset_Has: function 17 -/
def hasR (r : Int) : List S41 → Bool
  | [] => false
  | x :: t => (decide (x.f0 ≤ r) && decide (r ≤ x.f1)) || hasR r t
def idxR (r : Int) : List S41 → Int → Int
  | [], _ => -1
  | x :: t, i => if (decide (x.f0 ≤ r) && decide (r ≤ x.f1)) = true then i else idxR r t (i + 1)
theorem idxR_has (r : Int) : ∀ (l : List S41) (i : Int), 0 ≤ i → decide (idxR r l i ≥ 0) = hasR r l
  | [], i, _ => rfl
  | x :: t, i, h => by
    unfold idxR hasR
    cases hx : (decide (x.f0 ≤ r) && decide (r ≤ x.f1))
    · rw [if_neg (by simp), Bool.false_or]; exact idxR_has r t (i + 1) (by omega)
    · rw [if_pos rfl, Bool.true_or]; exact decide_eq_true h
def charset_Has.f (l0 : List S41) (a1 : Int) : Option Bool := if l0.length < 4611686018427387904 then some (if a1 < 0 then false else if a1 > 1114111 then false else hasR a1 l0) else none
set_option maxHeartbeats 1000000 in
/-- The closure of Has: the rune lies in a box. -/
theorem closure38 (x : S41) (b : Nat) (a1 : Int) (W : World) (hc : W.cell? ⟨b, 0, none⟩ = some (.int .i32 a1)) : Calls Try.prog 38 #[.agg #[.int .i32 x.f0, .int .i32 x.f1], .pointer (some ⟨b, 0, none⟩)] W fun e w' => e = .returned (.bool (decide (x.f0 ≤ a1) && decide (a1 ≤ x.f1))) ∧ Below W.heap.size W w' := by
  have hlt : b < W.heap.size := World.block_lt_of_cell? W _ hc
  go_enter Try.func38, Try.ntmps38
  go_wp2
  · rename_i h
    go_ret
    exact ⟨by rw [decide_eq_true h, Bool.true_and]; rfl, below_alloc (Below.refl _ _) _⟩
  · rename_i h
    go_ret
    exact ⟨by rw [decide_eq_false (show ¬ x.f0 ≤ a1 by omega)]; rfl, below_alloc (Below.refl _ _) _⟩
set_option maxHeartbeats 4000000 in
theorem index54 (b : Nat) (a1 : Int) (A0 : Option Addr) (c0 : Nat) (l0 : List S41) (w : World) (hr0 : Kd.C k41 w A0 l0.length l0) (hc0 : l0.length ≤ c0) (hl : l0.length < 4611686018427387904) (hc : w.cell? ⟨b, 0, none⟩ = some (.int .i32 a1)) (j : Int) (hj : idxR a1 l0 0 = j) :
    Calls Try.prog 54 #[.slice A0 l0.length c0, .func (.func 38) #[] #[.pointer (some ⟨b, 0, none⟩)]] w fun e w' => e = .returned (.int .i64 j) ∧ Below w.heap.size w w' := by
  have hlt : b < w.heap.size := World.block_lt_of_cell? w _ hc
  go_enter Try.func54, Try.ntmps54
  go_wp2
  go_loopg [4, 5, 8] l0.length (fun kq v4 v5 v8 w' => ∃ i : Nat, v8 = .int .i64 i ∧ i + kq = l0.length ∧ idxR a1 (l0.drop i) i = j ∧ Below w.heap.size w w')
  case atStart => exact ⟨0, rfl, by simp, hj, Below.refl _ _⟩
  case round =>
    obtain ⟨i, rfl, hk, hi, hb⟩ := hrel
    have hw : wrap64 ((i : Int) + 1) = ((i + 1 : Nat) : Int) := by unfold wrap64; omega
    by_cases hlt2 : i < l0.length
    · obtain ⟨k1, rfl⟩ : ∃ k1, gk = k1 + 1 := ⟨gk - 1, by omega⟩
      have p : (0 : Int) ≤ (i : Int) := Int.natCast_nonneg i
      have q : (i : Int) < (l0.length : Int) := by omega
      obtain ⟨ad, e, hx0, hx1⟩ := at_T41 hr0 (i : Int) p q
      cases e
      replace hx0 := (hb.cell (World.block_lt_of_cell? w _ hx0)).trans hx0
      replace hx1 := (hb.cell (World.block_lt_of_cell? w _ hx1)).trans hx1
      rw [Int.toNat_natCast] at hx0 hx1
      have hcw := (hb.cell hlt).trans hc
      have hd : l0.drop i = rd_T41 l0 i :: l0.drop (i + 1) := by
        rw [List.drop_eq_getElem_cons hlt2]
        simp [rd_T41, hlt2]
      rw [hd] at hi
      have c1 : decide ((i : Int) < (l0.length : Int)) = true := decide_eq_true q
      replace p := eq_true p
      replace q := eq_true q
      cases ht : (decide ((rd_T41 l0 i).f0 ≤ a1) && decide (a1 ≤ (rd_T41 l0 i).f1)) with
      | true =>
        have hcl := closure38 (rd_T41 l0 i) b a1 wr hcw
        rw [ht] at hcl
        obtain rfl : (i : Int) = j := by rw [← hi]; unfold idxR; rw [if_pos ht]
        clear hi hd hj
        go_wp2_with (go_at_call 38; refine hcl.mono ?_; rintro e w2 ⟨rfl, hb2⟩)
        go_ret
        exact ⟨rfl, below_step hb hb2⟩
      | false =>
        have hcl := closure38 (rd_T41 l0 i) b a1 wr hcw
        rw [ht] at hcl
        have hr : idxR a1 (l0.drop (i + 1)) ((i + 1 : Nat) : Int) = j := by rw [← hi]; rw [idxR, if_neg (by rw [ht]; simp)]; rfl
        clear hi hd
        go_wp2_with (go_at_call 38; refine hcl.mono ?_; rintro e w2 ⟨rfl, hb2⟩)
        go_roundg k1
        case measure => omega
        case rel => exact ⟨i + 1, (by first | rfl | (rw [hw]) | simp), by omega, hr, below_step hb hb2⟩
    · have c1 : decide ((i : Int) < (l0.length : Int)) = false := decide_eq_false (by omega)
      obtain rfl : (-1 : Int) = j := by rw [← hi, List.drop_eq_nil_of_le (by omega)]; rfl
      go_wp2
      go_ret
      exact ⟨rfl, hb⟩
theorem contains37 (b : Nat) (a1 : Int) (A0 : Option Addr) (c0 : Nat) (l0 : List S41) (w : World) (hr0 : Kd.C k41 w A0 l0.length l0) (hc0 : l0.length ≤ c0) (hl : l0.length < 4611686018427387904) (hc : w.cell? ⟨b, 0, none⟩ = some (.int .i32 a1)) :
    Calls Try.prog 37 #[.slice A0 l0.length c0, .func (.func 38) #[] #[.pointer (some ⟨b, 0, none⟩)]] w fun e w' => e = .returned (.bool (hasR a1 l0)) ∧ Below w.heap.size w w' := by
  have hcon := index54 b a1 A0 c0 l0 w hr0 hc0 hl hc _ rfl
  have hh := idxR_has a1 l0 0 (Int.le_refl 0)
  generalize idxR a1 l0 0 = j at hcon hh
  clear hr0 hc
  go_enter Try.func37, Try.ntmps37
  go_wp2_with (go_at_call 54; refine hcon.mono ?_; rintro e w2 ⟨rfl, hb2⟩)
  go_ret
  exact ⟨rfl, hb2⟩
set_option maxHeartbeats 2000000 in
theorem charset_Has.calls (A0 : Option Addr) (c0 : Nat) (l0 : List (S41)) (a1 : Int) (r : Bool) (w : World) (hr0 : Kd.C k41 w A0 l0.length l0) (hc0 : l0.length ≤ c0) (h : charset_Has.f l0 a1 = some r) :
    Calls Try.prog 17 #[.slice A0 l0.length c0, .int .i32 a1] w fun e w' => e = .returned (.bool r) ∧ Below w.heap.size w w' := by
  unfold charset_Has.f at h
  split at h
  case isFalse => cases h
  rename_i hl
  obtain rfl := Option.some.inj h
  clear h
  have hb0 : Below w.heap.size w (w.alloc (.cells #[.int .i32 a1] 21 (0, 0))) := below_alloc (Below.refl _ _) _
  have hcon := contains37 w.heap.size a1 A0 c0 l0 (w.alloc (.cells #[.int .i32 a1] 21 (0, 0))) (Kd.C_below hr0 hb0) hc0 hl (by simp [World.cell?, World.alloc, -World.alloc_eq])
  clear hr0
  have hbx : (w.alloc (.cells #[.int .i32 a1] 21 (0, 0))).cell? ⟨w.heap.size, 0, none⟩ = some (.int .i32 a1) := by simp [World.cell?, World.alloc, -World.alloc_eq]
  by_cases h1 : a1 < 0
  · rw [if_pos h1]
    have d1 : decide (a1 < 0) = true := decide_eq_true h1
    clear hcon
    go_enter Try.func17, Try.ntmps17
    go_wp2
    go_ret
    exact ⟨rfl, hb0⟩
  · rw [if_neg h1]
    have d1 : decide (a1 < 0) = false := decide_eq_false h1
    by_cases h2 : a1 > 1114111
    · rw [if_pos h2]
      have d2 : decide (1114111 < a1) = true := decide_eq_true h2
      clear hcon
      go_enter Try.func17, Try.ntmps17
      go_wp2
      go_ret
      exact ⟨rfl, hb0⟩
    · rw [if_neg h2]
      have d2 : decide (1114111 < a1) = false := decide_eq_false h2
      generalize hasR a1 l0 = q at hcon ⊢
      go_enter Try.func17, Try.ntmps17
      go_wp2_with (go_at_call 37; refine hcon.mono ?_; rintro e w2 ⟨rfl, hb2⟩)
      go_ret
      exact ⟨rfl, below_step hb0 hb2⟩


/-! ### charset_Parts_1: function 42 -/
def charset_Parts_1.l0 : Nat → Int → List Int → List (List (S41)) → Int → Int → Option (ByteArray)
 | 0, _, _, _, _, _ => none
 | k + 1, x0, x4, x10, x11, x12 => if x12 < x11 then (if 0 ≤ x12 then (if x12 < (x10.length : Int) then (if x12 < (x4.length : Int) then ((some (x4.set (x12 : Int).toNat 48 : List Int)).bind fun y144 => ((charset_Has.f (rd_L2 x10 x12) x0).bind fun t145 => (if t145 = true then (charset_Parts_1.l0 k x0 (y144.set (x12 : Int).toNat 49) x10 x11 (wrap64 (x12 + 1))) else (charset_Parts_1.l0 k x0 y144 x10 x11 (wrap64 (x12 + 1)))))) else (none)) else (none)) else (none)) else (some (strOfNums x4))
def charset_Parts_1.f (k : Nat) (a0 : Int) (l1 : List (List (S41))) : Option (ByteArray) := if 0 ≤ (l1.length : Int) then (if ((l1.length : Int) : Int).toNat ≤ 281474976710656 then (charset_Parts_1.l0 k a0 (List.replicate ((l1.length : Int) : Int).toNat 0) l1 (l1.length : Int) 0) else (none)) else (none)
theorem charset_Parts_1.mono_l : ∀ k, (∀ y0 y1 y2 y3 y4, LeO (charset_Parts_1.l0 k y0 y1 y2 y3 y4) (charset_Parts_1.l0 (k + 1) y0 y1 y2 y3 y4))
 | 0 => fun _ _ _ _ _ r h => by simp [charset_Parts_1.l0] at h
 | k + 1 => by
  have ih0 := charset_Parts_1.mono_l k
  ·intro y0 y1 y2 y3 y4
   unfold charset_Parts_1.l0
   repeat' first
   | (with_reducible exact ih0 _ _ _ _ _)
   | (with_reducible exact LeO.refl _)
   | (with_reducible exact LeO.none _)
   | (with_reducible refine LeO.ite ?_ ?_)
   | (with_reducible refine LeO.bind ?_ (fun _ => ?_))
   | exact ih0 _ _ _ _ _
   | exact LeO.none _
   | refine LeO.ite ?_ ?_
   | refine LeO.bind ?_ (fun _ => ?_)
theorem charset_Parts_1.mono : ∀ a0 a1 k, LeO (charset_Parts_1.f k a0 a1) (charset_Parts_1.f (k + 1) a0 a1) := by
 intro a0 a1 k
 have ih0 := charset_Parts_1.mono_l k
 unfold charset_Parts_1.f
 repeat' first
   | (with_reducible exact ih0 _ _ _ _ _)
   | (with_reducible exact LeO.refl _)
   | (with_reducible exact LeO.none _)
   | (with_reducible refine LeO.ite ?_ ?_)
   | (with_reducible refine LeO.bind ?_ (fun _ => ?_))
   | exact ih0 _ _ _ _ _
   | exact LeO.none _
   | refine LeO.ite ?_ ?_
   | refine LeO.bind ?_ (fun _ => ?_)
set_option maxHeartbeats 8000000 in
set_option maxRecDepth 100000 in
theorem charset_Parts_1.calls (k : Nat) (a0 : Int) (A1 : Option Addr) (c1 : Nat) (l1 : List (List (S41))) (r : ByteArray) (w : World) (hr1 : Kd.C (Kd.slice 41 k41) w A1 l1.length l1) (hc1 : l1.length ≤ c1) (h : charset_Parts_1.f k a0 l1 = some r) (B_ : Nat) (hbx : w.cell? ⟨B_, 0, none⟩ = some (.slice A1 l1.length c1)) :
  Calls Try.prog 42 #[.int .i32 a0, .pointer (some ⟨B_, 0, none⟩)] w fun e w' => e = .returned (.string r) ∧ Below w.heap.size w w' := by
 have HR1 := aM hr1; have HC1 := aM hc1; clear hr1 hc1; have HB := aM (Below.refl w.heap.size w); have H : (if 0 ≤ (l1.length : Int) then (if ((l1.length : Int) : Int).toNat ≤ 281474976710656 then (charset_Parts_1.l0 k a0 (List.replicate ((l1.length : Int) : Int).toNat 0) l1 (l1.length : Int) 0) else (none)) else (none)) = some r := h; clear h
 by_cases c3 : 0 ≤ (l1.length : Int)
 ·rw [if_pos c3] at H; have c3b0 := eq_true c3; have c3b1 : decide (0 ≤ (l1.length : Int)) = true := decide_eq_true c3; clear c3
  by_cases c4 : ((l1.length : Int) : Int).toNat ≤ 281474976710656
  ·rw [if_pos c4] at H; have c4b0 := eq_true c4; have c4b1 : decide (((l1.length : Int) : Int).toNat ≤ 281474976710656) = true := decide_eq_true c4; clear c4; obtain ⟨y140, hy140⟩ : ∃ y_ : List Int, y_ = (List.replicate ((l1.length : Int) : Int).toNat 0) := ⟨_, rfl⟩; replace H : (charset_Parts_1.l0 k a0 y140 l1 (l1.length : Int) 0) = some r := by first | (rw [hy140]; with_reducible exact H) | (have H2_ := (Option.bind_some _ _).symm.trans H; rw [hy140]; with_reducible exact H2_) | (have H2_ := (Option.bind_some _ _).symm.trans H; with_reducible exact H2_) | with_reducible exact H | (rw [hy140]; exact H) | exact H
   have Ny140 := aM hy140; clear hy140; have H' := aM H; clear H; go_enter Try.func42, Try.ntmps42
   go_wp2_with (first | ((with_reducible refine gate_dst (N := 9) rfl ?_); refine Kd.R_make (Kd.int .u8) _ 5 rfl (N := 9) rfl 53 _ _ rfl (l1.length : Int) rfl rfl Try.underlying53 (.int .u8 0) 1 info5 rfl (by decide) (by omega) 0 (ok := fun _ => True) (okp := fun _ => True) rfl (fun _ hk => hk) trivial (dT) (Nat.le_trans (Nat.mul_le_mul_right _ (dT : (l1.length : Int).toNat ≤ 281474976710656)) (by omega)) (Below.refl _ _) (Nat.le_refl _) ?_; intro v141 w5 ho6 hb hg_ hnew_; clear hg_ hnew_; (first | rw [← Ny140.out] at ho6 | (simp only [Int.reduceToNat] at ho6; rw [← Ny140.out] at ho6)); have n0_ := aM (Kd.R_lower ho6 (below_size (hB_t HB.out))); have n1_ := aM (below_step (hB_t HB.out) hb); clear HB; have HO142 := n0_; have HB := n1_; clear n0_ n1_; clear hb ho6; have hbx2 := (HB.out.cell (World.block_lt_of_cell? w _ hbx)).trans hbx))
   go_loopg [12] k (fun kq v12 w' => ∃ (x4_1 : List Int) (x12_1 : Int), v12 = .int .i64 x12_1 ∧ Aside0 (charset_Parts_1.l0 kq a0 x4_1 l1 (l1.length : Int) x12_1 = some r) ∧ Aside0 (kq ≤ k) ∧ Aside0 (Kd.R (Kd.int .u8) 5 w' w.heap.size (fun _ => True) v141 x4_1) ∧ Aside0 (Below w.heap.size w w'))
   case atStart => exact ⟨(y140), (0), rT, H', ⟨Nat.le_refl _⟩, ⟨Kd.R_t HO142.out⟩, ⟨hB_t HB.out⟩⟩
   case round =>
    clear H'; (try clear c1); (try clear p2); (try clear c3); (try clear c3b0); (try clear c3b1); (try clear c4); (try clear c4b0); (try clear c4b1); (try clear HK1); (try clear HO_4); (try clear HB); obtain ⟨x4_1, x12_1, rfl, HA, HK1, HO_4, HB⟩ := hrel
    cases gk with
    | zero => exact absurd HA.out (by simp [charset_Parts_1.l0])
    | succ k1 =>
     have H := HA.out; clear HA; simp only [charset_Parts_1.l0] at H
     by_cases c7 : x12_1 < (l1.length : Int)
     ·rw [if_pos c7] at H; have c7b0 : decide (x12_1 < (l1.length : Int)) = true := decide_eq_true c7; clear c7
      by_cases c8 : 0 ≤ x12_1
      ·rw [if_pos c8] at H; have c8b0 : decide (0 ≤ x12_1) = true := decide_eq_true c8; clear c8
       by_cases c9 : x12_1 < (l1.length : Int)
       ·rw [if_pos c9] at H; have c9b0 : decide (x12_1 < (l1.length : Int)) = true := decide_eq_true c9; clear c9
        by_cases c10 : x12_1 < (x4_1.length : Int)
        ·rw [if_pos c10] at H; have c10b0 : decide (x12_1 < (x4_1.length : Int)) = true := decide_eq_true c10; clear c10; obtain ⟨y144, hy144⟩ : ∃ y_ : List Int, y_ = (x4_1.set (x12_1 : Int).toNat 48) := ⟨_, rfl⟩; replace H : ((charset_Has.f (rd_L2 l1 x12_1) a0).bind fun t145 => (if t145 = true then (charset_Parts_1.l0 k1 a0 (y144.set (x12_1 : Int).toNat 49) l1 (l1.length : Int) (wrap64 (x12_1 + 1))) else (charset_Parts_1.l0 k1 a0 y144 l1 (l1.length : Int) (wrap64 (x12_1 + 1))))) = some r := by first | (rw [hy144]; with_reducible exact H) | (have H2_ := (Option.bind_some _ _).symm.trans H; rw [hy144]; with_reducible exact H2_) | (have H2_ := (Option.bind_some _ _).symm.trans H; with_reducible exact H2_) | with_reducible exact H | (rw [hy144]; exact H) | exact H
         have Ny144 := aM hy144; clear hy144; replace H := Option.bind_eq_some_iff.mp H; obtain ⟨t145, A120, H⟩ := H; replace H : (if t145 = true then (charset_Parts_1.l0 k1 a0 (y144.set (x12_1 : Int).toNat 49) l1 (l1.length : Int) (wrap64 (x12_1 + 1))) else (charset_Parts_1.l0 k1 a0 y144 l1 (l1.length : Int) (wrap64 (x12_1 + 1)))) = some r := H; have A12 := aM A120; clear A120
         by_cases c13 : t145 = true
         ·subst c13; have H1 : (charset_Parts_1.l0 k1 a0 (y144.set (x12_1 : Int).toNat 49) l1 (l1.length : Int) (wrap64 (x12_1 + 1))) = some r := by rw [if_pos rfl] at H; exact H
          clear H; have H := H1; clear H1; obtain ⟨y146, hy146⟩ : ∃ y_ : List Int, y_ = (y144.set (x12_1 : Int).toNat 49) := ⟨_, rfl⟩; replace H : (charset_Parts_1.l0 k1 a0 y146 l1 (l1.length : Int) (wrap64 (x12_1 + 1))) = some r := by first | (rw [hy146]; with_reducible exact H) | (have H2_ := (Option.bind_some _ _).symm.trans H; rw [hy146]; with_reducible exact H2_) | (have H2_ := (Option.bind_some _ _).symm.trans H; with_reducible exact H2_) | with_reducible exact H | (rw [hy146]; exact H) | exact H
          have Ny146 := aM hy146; clear hy146; have H' := aM H; clear H; have p143 : 0 ≤ (x12_1 : Int) := dT; have q143 : x12_1 < (l1.length : Int) := dT; obtain ⟨ad143, A143_0, c143_0, e143, hx143_0, hl143_0, hi143_0⟩ := at_L2 HR1.out x12_1 p143 q143; cases e143
          replace hx143_0 := (HB.out.cell (World.block_lt_of_cell? w _ hx143_0)).trans hx143_0; have HR143_0 := aM hi143_0; have HC143_0 := aM hl143_0; clear hi143_0 hl143_0; replace p143 := eq_true p143; replace q143 := eq_true q143; have p11 : 0 ≤ (x12_1 : Int) := dT; have q11 : (x12_1 : Int) < ((x4_1.length : Int) : Int) := dT; obtain ⟨go11, co11, eo11, gb11, gl11, cl11, HG11⟩ := Kd.R_form HO_4.out (by omega); (first | cases eo11 | (injection eo11 with ea_ en_ ec_; (first | subst ea_ | (injection ea_ with ea_; subst ea_)); subst ec_; clear en_)); have GB11 := aM gb11; have GG11 := aM HG11; clear gb11 gl11 HG11; obtain ⟨hx11_0, hf11_0⟩ := Kd.R_celln 0 HO_4.out (x12_1 : Int) p11 q11; replace p11 := eq_true p11; replace q11 := eq_true q11; have HP15 := Kd.R_putg HO_4.out (x12_1 : Int) 48; go_wp2_with (first | ((with_reducible refine gate_store (t := 5) (p := 19) rfl ?_); refine store_event (t := 5) (p := 19) (v := ?vo_w16) (w1 := (wr.setCell ⟨go11, (x12_1 : Int).toNat, none⟩ (.int .u8 48))) ?hg ?ho ?hn ?hr ?_; (case ho => rfl); (case hg => rfl); (case hn => rfl); (case hr => first | (go_simp; done) | (go_simp; rfl)); intro w16 hw; have hg : wr.grownBy w16 (some go11) := (by rw [hw]; exact HP15.2); have hp_ : Kd.R (Kd.int .u8) 5 w16 w.heap.size (fun _ => True) (.slice (some ⟨go11, 0, none⟩) x4_1.length co11) y144 := (by rw [hw, Ny144.out]; exact HP15.1); clear HP15; have n0_ := aM (hp_); have n1_ := aM ((by rw [hw]; exact below_set (HB.out) GB11.out : Below w.heap.size w w16)); clear HO_4; clear HB; have HO_4 := n0_; have HB := n1_; clear n0_ n1_; clear hg hw hp_) | ((with_reducible refine gate_callee (f := 17) rfl ?_); refine goesL_ (some 22) rfl rfl Try.func17 (by kernel_rfl) rfl #[.slice A143_0 (rd_L2 l1 x12_1).length c143_0, .int .i32 a0] rfl mT ?_; (with_reducible refine (charset_Has.calls _ _ (rd_L2 l1 x12_1) a0 true _ ?side1 ?side2 A12.out).mono ?_); (case side1 => exact Kd.C_t (Kd.C_below HR143_0.out HB.out)); (case side2 => exact HC143_0.out); rintro e w17 ⟨rfl, hb⟩; refine ⟨_, rfl, ?_⟩; have n0_ := aM (Kd.R_below (Kd.R_t HO_4.out) hb); have n1_ := aM (below_step (hB_t HB.out) hb); clear HO_4; clear HB; have HO_4 := n0_; have HB := n1_; clear n0_ n1_; (try clear hb); (try clear hb2); (try clear hk); (try clear hi); have p14 : 0 ≤ (x12_1 : Int) := dT; have q14 : (x12_1 : Int) < ((x4_1.length : Int) : Int) := dT; obtain ⟨hx14_0, hf14_0⟩ := Kd.R_celln 0 HO_4.out (x12_1 : Int) p14 q14; replace p14 := eq_true p14; replace q14 := eq_true q14; obtain ⟨hy18_, hz18_⟩ := Kd.R_celln 0 HO_4.out (x12_1 : Int) (dT) (dT); have HP18 := Kd.R_putg HO_4.out (x12_1 : Int) 49) | ((with_reducible refine gate_store (t := 5) (p := 25) rfl ?_); refine store_event (t := 5) (p := 25) (v := ?vo_w19) (w1 := (w17.setCell ⟨go11, (x12_1 : Int).toNat, none⟩ (.int .u8 49))) ?hg ?ho ?hn ?hr ?_; (case ho => rfl); (case hg => rfl); (case hn => rfl); (case hr => first | (go_simp; done) | (go_simp; rfl)); intro w19 hw; have hg : w17.grownBy w19 (some go11) := (by rw [hw]; exact HP18.2); have hp_ : Kd.R (Kd.int .u8) 5 w19 w.heap.size (fun _ => True) (.slice (some ⟨go11, 0, none⟩) x4_1.length co11) y146 := (by rw [hw, Ny146.out]; exact HP18.1); clear HP18; have n0_ := aM (hp_); have n1_ := aM ((by rw [hw]; exact below_set (HB.out) GB11.out : Below w.heap.size w w19)); clear HO_4; clear HB; have HO_4 := n0_; have HB := n1_; clear n0_ n1_; clear hg hw hp_))
          go_roundg k1
          case measure => have := HK1.out; omega
          case rel => exact ⟨(y146), (wrap64 (x12_1 + 1)), rT, H', ⟨by have := HK1.out; omega⟩, ⟨Kd.R_t HO_4.out⟩, ⟨hB_t HB.out⟩⟩
         ·replace c13 := Bool.eq_false_iff.mpr c13; subst c13; have H1 : (charset_Parts_1.l0 k1 a0 y144 l1 (l1.length : Int) (wrap64 (x12_1 + 1))) = some r := by rw [if_neg (show ¬ (false = true) by decide)] at H; exact H
          clear H; have H := H1; clear H1; have H' := aM H; clear H; have p143 : 0 ≤ (x12_1 : Int) := dT; have q143 : x12_1 < (l1.length : Int) := dT; obtain ⟨ad143, A143_0, c143_0, e143, hx143_0, hl143_0, hi143_0⟩ := at_L2 HR1.out x12_1 p143 q143; cases e143
          replace hx143_0 := (HB.out.cell (World.block_lt_of_cell? w _ hx143_0)).trans hx143_0; have HR143_0 := aM hi143_0; have HC143_0 := aM hl143_0; clear hi143_0 hl143_0; replace p143 := eq_true p143; replace q143 := eq_true q143; have p11 : 0 ≤ (x12_1 : Int) := dT; have q11 : (x12_1 : Int) < ((x4_1.length : Int) : Int) := dT; obtain ⟨go11, co11, eo11, gb11, gl11, cl11, HG11⟩ := Kd.R_form HO_4.out (by omega); (first | cases eo11 | (injection eo11 with ea_ en_ ec_; (first | subst ea_ | (injection ea_ with ea_; subst ea_)); subst ec_; clear en_)); have GB11 := aM gb11; have GG11 := aM HG11; clear gb11 gl11 HG11; obtain ⟨hx11_0, hf11_0⟩ := Kd.R_celln 0 HO_4.out (x12_1 : Int) p11 q11; replace p11 := eq_true p11; replace q11 := eq_true q11; have HP20 := Kd.R_putg HO_4.out (x12_1 : Int) 48; go_wp2_with (first | ((with_reducible refine gate_store (t := 5) (p := 19) rfl ?_); refine store_event (t := 5) (p := 19) (v := ?vo_w21) (w1 := (wr.setCell ⟨go11, (x12_1 : Int).toNat, none⟩ (.int .u8 48))) ?hg ?ho ?hn ?hr ?_; (case ho => rfl); (case hg => rfl); (case hn => rfl); (case hr => first | (go_simp; done) | (go_simp; rfl)); intro w21 hw; have hg : wr.grownBy w21 (some go11) := (by rw [hw]; exact HP20.2); have hp_ : Kd.R (Kd.int .u8) 5 w21 w.heap.size (fun _ => True) (.slice (some ⟨go11, 0, none⟩) x4_1.length co11) y144 := (by rw [hw, Ny144.out]; exact HP20.1); clear HP20; have n0_ := aM (hp_); have n1_ := aM ((by rw [hw]; exact below_set (HB.out) GB11.out : Below w.heap.size w w21)); clear HO_4; clear HB; have HO_4 := n0_; have HB := n1_; clear n0_ n1_; clear hg hw hp_) | ((with_reducible refine gate_callee (f := 17) rfl ?_); refine goesL_ (some 22) rfl rfl Try.func17 (by kernel_rfl) rfl #[.slice A143_0 (rd_L2 l1 x12_1).length c143_0, .int .i32 a0] rfl mT ?_; (with_reducible refine (charset_Has.calls _ _ (rd_L2 l1 x12_1) a0 false _ ?side1 ?side2 A12.out).mono ?_); (case side1 => exact Kd.C_t (Kd.C_below HR143_0.out HB.out)); (case side2 => exact HC143_0.out); rintro e w22 ⟨rfl, hb⟩; refine ⟨_, rfl, ?_⟩; have n0_ := aM (Kd.R_below (Kd.R_t HO_4.out) hb); have n1_ := aM (below_step (hB_t HB.out) hb); clear HO_4; clear HB; have HO_4 := n0_; have HB := n1_; clear n0_ n1_; (try clear hb); (try clear hb2); (try clear hk); (try clear hi)))
          go_roundg k1
          case measure => have := HK1.out; omega
          case rel => exact ⟨(y144), (wrap64 (x12_1 + 1)), rT, H', ⟨by have := HK1.out; omega⟩, ⟨Kd.R_t HO_4.out⟩, ⟨hB_t HB.out⟩⟩
        ·rw [if_neg c10] at H; exact absurd H (by simp)
       ·rw [if_neg c9] at H; exact absurd H (by simp)
      ·rw [if_neg c8] at H; exact absurd H (by simp)
     ·rw [if_neg c7] at H; have c7b0 : decide (x12_1 < (l1.length : Int)) = false := decide_eq_false c7; clear c7; obtain rfl := Option.some.inj H; have hcv23 := own_string (P := Try.prog) Try.underlying53 Try.underlying5 Try.underlying9 (Kd.own_of_R HO_4.out); go_wp2
      go_ret
      exact ⟨rE, hB_t HB.out⟩
  ·rw [if_neg c4] at H; exact absurd H (by simp)
 ·rw [if_neg c3] at H; exact absurd H (by simp)

end Go.Proofs.Ytomccgpachmpbaa.PB
