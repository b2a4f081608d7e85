/- Parts is a partition of all runes, and every argument set is a union of its classes. -/
import Derived.Test.YtomccgpachmpbaaPBx7
import Derived.Test.YtomccgpachmpbaaPBx8
import Derived.Test.YtomccgpachmpbaaQl3
import Derived.Test.YtomccgpachmpbaaQl7
import Derived.Test.YtomccgpachmpbaaQlk
-- needs: arboristlaw03_CharsetApart arboristlaw03_few
namespace Go.Proofs.Ytomccgpachmpbaa.Pure
open Go.RowKit Go.Proofs.Ytomccgpachmpbaa.PB Go.Proofs.YtomccgpachmpbaaW.PrintWords Go.Proofs.YtomccgpachmpbaaW.PrintLast Go.Proofs.YtomccgpachmpbaaW.PrintMore
set_option linter.unusedVariables false

instance (x : Int) : Decidable (inU x) := inferInstanceAs (Decidable (_ ∧ _))
theorem few_l0 (l : List (List S41)) (hl : l.length < 17592186044416) : ∀ (d i : Nat), i + d = l.length → ∃ b, Ev (fun k => arboristlaw03_few.l0 k l (i : Int)) b ∧ (b = true → l.length ≤ 12 ∧ ∀ j (hj : j < l.length), i ≤ j → l[j].length ≤ 12) := by
  intro d
  induction d with
  | zero =>
    intro i hi
    refine ⟨decide ((l.length : Int) ≤ 12), Ev.step (f := fun k => arboristlaw03_few.j1 k l (i : Int) false) (fun k => ?_) (Ev.step (f := fun _ => some (decide ((l.length : Int) ≤ 12))) (fun k => ?_) (Ev.now _)), fun h => ?_⟩
    · simp only [arboristlaw03_few.l0]; rw [if_neg (by omega)]
    · simp only [arboristlaw03_few.j1]; rw [if_neg (by simp)]
    · have := of_decide_eq_true h
      exact ⟨by omega, fun j hj h => by omega⟩
  | succ d ih =>
    intro i hi
    have hlt : i < l.length := by omega
    by_cases h20 : (i : Int) < 20
    · by_cases h12 : (l[i].length : Int) > 12
      · refine ⟨false, Ev.step (f := fun k => arboristlaw03_few.j1 k l (i : Int) true) (fun k => ?_) (Ev.step (f := fun _ => some false) (fun k => ?_) (Ev.now _)), fun h => by cases h⟩
        · simp only [arboristlaw03_few.l0]; rw [if_pos (by omega), decide_eq_true h20]
        · simp only [arboristlaw03_few.j1]; rw [if_pos trivial, if_pos (by omega), if_pos (by omega), rd_L2_at l i hlt, if_pos h12]
      · obtain ⟨b, h1, h2⟩ := ih (i + 1) (by omega)
        refine ⟨b, Ev.step (f := fun k => arboristlaw03_few.j1 k l (i : Int) true) (fun k => ?_) (Ev.step (fun k => ?_) h1), fun h => ⟨(h2 h).1, fun j hj hij => ?_⟩⟩
        · simp only [arboristlaw03_few.l0]; rw [if_pos (by omega), decide_eq_true h20]
        · simp only [arboristlaw03_few.j1]; rw [if_pos trivial, if_pos (by omega), if_pos (by omega), rd_L2_at l i hlt, if_neg h12, wrap_succ hlt (by omega)]
        · by_cases hij2 : j = i
          · subst hij2; omega
          · exact (h2 h).2 j hj (by omega)
    · refine ⟨decide ((l.length : Int) ≤ 12), Ev.step (f := fun k => arboristlaw03_few.j1 k l (i : Int) false) (fun k => ?_) (Ev.step (f := fun _ => some (decide ((l.length : Int) ≤ 12))) (fun k => ?_) (Ev.now _)), fun h => ?_⟩
      · simp only [arboristlaw03_few.l0]; rw [if_pos (by omega), decide_eq_false h20]
      · simp only [arboristlaw03_few.j1]; rw [if_neg (by simp)]
      · have := of_decide_eq_true h
        omega
theorem madeR_can {l : List S41} (h : Can l) : madeR l = l := by unfold madeR; rw [if_pos ((chk_iff l).2 h)]
theorem szR_nonneg : ∀ {l : List S41}, Can l → 0 ≤ szR l := by
  intro l
  induction l with
  | nil => intro _; simp [szR]
  | cons y t ih =>
    intro h
    obtain ⟨h1, _, h3⟩ := can_cons.1 h
    have := ih h3
    unfold Ok at h1
    simp only [szR]; omega
theorem szR_pos {l : List S41} (h : Can l) {x : Int} (hx : mem l x) : 0 < szR l := by
  cases l with
  | nil => exact absurd hx (mem_nil x)
  | cons y t =>
    obtain ⟨h1, _, h3⟩ := can_cons.1 h
    have := szR_nonneg h3
    unfold Ok at h1
    simp only [szR]; omega
def cntI (r : Int) : List (List S41) → Int
  | [] => 0
  | q :: t => (if inS q r = true then 1 else 0) + cntI r t
def sumS : List (List S41) → Int
  | [] => 0
  | q :: t => szR q + sumS t
theorem cntI_nonneg (r : Int) : ∀ Q, 0 ≤ cntI r Q := by
  intro Q
  induction Q with
  | nil => simp [cntI]
  | cons q t ih => simp only [cntI]; split <;> omega
theorem sumS_nonneg : ∀ {Q : List (List S41)}, (∀ q ∈ Q, Can q) → 0 ≤ sumS Q := by
  intro Q
  induction Q with
  | nil => intro _; simp [sumS]
  | cons q t ih =>
    intro h
    have h1 := szR_nonneg (h q (by simp))
    have h2 := ih (fun z hz => h z (by simp [hz]))
    simp only [sumS]; omega
theorem cntI_keys (l : List (List S41)) (r : Int) : ∀ (G : List (List Bool × List S41)), (G.map (·.1)).Nodup → (∀ g ∈ G, ∀ x, mem (setG g) x ↔ inU x ∧ keyB l x = g.1) → cntI r (G.map setG) = if inU r ∧ keyB l r ∈ G.map (·.1) then 1 else 0 := by
  intro G
  induction G with
  | nil => intro _ _; simp [cntI]
  | cons g t ih =>
    intro hd hm
    rw [List.map_cons, List.nodup_cons] at hd
    have h1 := ih hd.2 (fun z hz => hm z (by simp [hz]))
    simp only [List.map_cons, cntI, h1]
    have hg : inS (setG g) r = true ↔ inU r ∧ keyB l r = g.1 := by
      rw [inS_iff, hm g (by simp)]
      exact ⟨fun h => h.2, fun h => ⟨h.1, h⟩⟩
    by_cases hu : inU r
    · by_cases hk : keyB l r = g.1
      · rw [if_pos (hg.2 ⟨hu, hk⟩), if_neg (by rw [hk]; exact fun h => hd.1 h.2), if_pos ⟨hu, by rw [hk]; simp⟩]; rfl
      · rw [if_neg (fun h => hk (hg.1 h).2)]
        by_cases ht : keyB l r ∈ t.map (·.1)
        · rw [if_pos ⟨hu, ht⟩, if_pos ⟨hu, by simp only [List.mem_cons]; exact .inr ht⟩]; rfl
        · rw [if_neg (fun h => ht h.2), if_neg (fun h => by
            rcases List.mem_cons.1 h.2 with h2 | h2
            · exact hk h2
            · exact ht h2)]; rfl
    · rw [if_neg (fun h => hu (hg.1 h).1), if_neg (fun h => hu h.1), if_neg (fun h => hu h.1)]; rfl
theorem cnt_all {p : Int → Bool} : ∀ n : Nat, (∀ x, 0 ≤ x → x < n → p x = true) → cnt p n = n := by
  intro n
  induction n with
  | zero => intro _; rfl
  | succ n ih =>
    intro h
    simp only [cnt]
    rw [ih (fun x h0 h1 => h x h0 (by omega)), if_pos (h n (by omega) (by omega))]
    omega
theorem sumS_keys (l : List (List S41)) : ∀ (G : List (List Bool × List S41)), (G.map (·.1)).Nodup → (∀ g ∈ G, Can (setG g) ∧ ∀ x, mem (setG g) x ↔ inU x ∧ keyB l x = g.1) → sumS (G.map setG) = cnt (fun x => decide (x ≤ 1114111) && (G.map (·.1)).contains (keyB l x)) 1114112 := by
  intro G
  induction G with
  | nil =>
    intro _ _
    rw [cnt_congr (q := fun _ => false) (fun x _ => by simp), cnt_none]; rfl
  | cons g t ih =>
    intro hd hm
    rw [List.map_cons, List.nodup_cons] at hd
    have h1 := ih hd.2 (fun z hz => hm z (by simp [hz]))
    obtain ⟨hc, hmem⟩ := hm g (by simp)
    simp only [List.map_cons, sumS, h1]
    rw [← cnt_can _ hc]
    have h2 := cnt_add (inS (setG g)) (fun x => decide (x ≤ 1114111) && (t.map (·.1)).contains (keyB l x)) (fun _ => false) (fun x => decide (x ≤ 1114111) && (g.1 :: t.map (·.1)).contains (keyB l x)) (fun x hx => by
      have hg : inS (setG g) x = true ↔ x ≤ 1114111 ∧ keyB l x = g.1 := by
        rw [inS_iff, hmem]
        unfold inU
        exact ⟨fun h => ⟨h.1.2, h.2.2⟩, fun h => ⟨⟨hx, h.1⟩, ⟨hx, h.1⟩, h.2⟩⟩
      rw [List.contains_cons]
      by_cases hu : x ≤ 1114111
      · rw [decide_eq_true hu, Bool.true_and, Bool.true_and]
        by_cases hk : keyB l x = g.1
        · have hnt : (t.map (·.1)).contains (keyB l x) = false := by
            rw [Bool.eq_false_iff, ne_eq, List.contains_iff_mem, hk]; exact hd.1
          rw [if_pos (hg.2 ⟨hu, hk⟩), hnt, show (keyB l x == g.1) = true from beq_iff_eq.2 hk]; rfl
        · rw [if_neg (fun h => hk (hg.1 h).2), show (keyB l x == g.1) = false from beq_eq_false_iff_ne.2 hk, Bool.false_or]
          simp
      · rw [if_neg (fun h => hu (hg.1 h).1), decide_eq_false hu]; rfl) 1114112
    rw [cnt_none] at h2
    omega
/-- A class lies in a set or beside it. -/
theorem in_or_out {l : List (List S41)} {s : List S41} (hs : s ∈ l) {q : List S41} {c : List Bool} (hq : ∀ x, mem q x ↔ inU x ∧ keyB l x = c) : (∀ x, mem q x → mem s x) ∨ ∀ x, mem q x → ¬ mem s x := by
  have same : ∀ x y, mem q x → mem q y → inS s x = inS s y := fun x y hx hy => by
    have h1 : keyB l x = keyB l y := ((hq x).1 hx).2.trans ((hq y).1 hy).2.symm
    unfold keyB at h1
    exact List.map_inj_left.1 h1 s hs
  by_cases h : ∃ x, mem q x ∧ mem s x
  · obtain ⟨x, hx, hsx⟩ := h
    refine .inl (fun y hy => ?_)
    have h1 := same x y hx hy
    rw [(inS_iff s x).2 ⟨((hq x).1 hx).1, hsx⟩] at h1
    exact ((inS_iff s y).1 h1.symm).2
  · exact .inr (fun x hx hsx => h ⟨x, hx, hsx⟩)
theorem apart_l1 (l : List (List S41)) (hl : l.length ≤ 12) (hs : ∀ s ∈ l, s.length < 17592186044416) (r : Int) (Q : List (List S41)) (hQ : Q.length ≤ 1114112) (i : Nat) (hi : i < Q.length) (hc : Can Q[i]) (hne : ∃ x, mem Q[i] x) (hio : ∀ s ∈ l, (∀ x, mem Q[i] x → mem s x) ∨ ∀ x, mem Q[i] x → ¬ mem s x) (n a : Int)
    (hR : Ev (fun k => arboristlaw03_CharsetApart.l0 k l r Q n a ((i + 1 : Nat) : Int)) true) : ∀ (d j : Nat), j + d = l.length → Ev (fun k => arboristlaw03_CharsetApart.l1 k l r Q n a (i : Int) (j : Int)) true := by
  intro d
  have hlq := can_len hc
  induction d with
  | zero =>
    intro j hj
    refine Ev.step (fun k => ?_) hR
    simp only [arboristlaw03_CharsetApart.l1]
    rw [if_neg (by omega), wrap_succ hi (by omega)]
  | succ d ih =>
    intro j hj
    have hlt : j < l.length := by omega
    have h := ih (j + 1) (by omega)
    obtain ⟨s, s1, s2, s3⟩ := inter_ev Q[i] l[j] (by omega) (hs _ (List.getElem_mem _))
    have hls := can_len s2
    have sz := size_ev s (by omega)
    have szq := size_ev Q[i] (by omega)
    rw [madeR_can s2] at sz
    rw [madeR_can hc] at szq
    refine Ev_shift ?_
    simp only [arboristlaw03_CharsetApart.l1]
    refine Ev.congr (f := fun k => (charset_Inter.f k Q[i] l[j]).bind fun t283 => ((charset_Size.f k t283).bind fun t286 => (if t286 = 0 then (arboristlaw03_CharsetApart.l1 k l r Q n a (i : Int) ((j + 1 : Nat) : Int)) else ((charset_Size.f k Q[i]).bind fun t288 => (if t286 = t288 then (arboristlaw03_CharsetApart.l1 k l r Q n a (i : Int) ((j + 1 : Nat) : Int)) else (none)))))) (fun k => ?_) (Ev.bind s1 (Ev.bind sz ?_))
    · rw [if_pos (by omega), if_pos (by omega), if_pos (by omega), if_pos (by omega), rd_L2_at Q i hi, rd_L2_at l j hlt, wrap_succ hlt (by omega)]
    · rcases hio l[j] (List.getElem_mem _) with hin | hout
      · have e : s = Q[i] := can_ext s2 hc (fun x => by
          rw [s3]
          exact ⟨fun h => h.2.1, fun h => ⟨can_mem hc h, h, hin x h⟩⟩)
        rw [e]
        obtain ⟨x, hx⟩ := hne
        have hp := szR_pos hc hx
        refine Ev.congr (fun k => if_neg (by omega)) (Ev.bind szq (Ev.congr (fun k => if_pos rfl) h))
      · have e : s = [] := can_ext s2 can_nil (fun x => by
          rw [s3]
          exact ⟨fun h => absurd h.2.2 (hout x h.2.1), fun h => absurd h (mem_nil x)⟩)
        rw [e]
        exact Ev.congr (fun k => if_pos rfl) h
theorem apart_l0 (l : List (List S41)) (hl : l.length ≤ 12) (hs : ∀ s ∈ l, s.length < 17592186044416) (r : Int) (Q : List (List S41)) (hQ : Q.length ≤ 1114112) (hq : ∀ q ∈ Q, Can q ∧ (∃ x, mem q x) ∧ ∀ s ∈ l, (∀ x, mem q x → mem s x) ∨ ∀ x, mem q x → ¬ mem s x) : ∀ (d i : Nat) (n a : Int), i + d = Q.length → 0 ≤ n → 0 ≤ a →
    n + cntI r (Q.drop i) = (if 0 ≤ r ∧ r ≤ 1114111 then 1 else 0) → a + sumS (Q.drop i) = 1114112 → Ev (fun k => arboristlaw03_CharsetApart.l0 k l r Q n a (i : Int)) true := by
  intro d
  induction d with
  | zero =>
    intro i n a hi hn0 ha0 hn ha
    rw [List.drop_eq_nil_of_le (by omega)] at hn ha
    simp only [cntI, sumS, Int.add_zero] at hn ha
    subst ha
    refine Ev_shift ?_
    simp only [arboristlaw03_CharsetApart.l0]
    refine Ev.congr (f := fun k => (arboristlaw03_knows.f k).bind fun t => some t) (fun k => ?_) (Ev.bind knows_ev (Ev.now true))
    rw [if_neg (by omega)]
    by_cases h0 : r ≥ 0
    · rw [if_pos h0]
      by_cases h1 : r ≤ 1114111
      · rw [if_pos ⟨h0, h1⟩] at hn
        subst hn
        rw [decide_eq_true h1, if_pos (by decide), if_pos (by decide), if_pos trivial]
      · rw [if_neg (fun h => h1 h.2)] at hn
        subst hn
        rw [decide_eq_false h1, if_pos (by decide), if_pos (by decide), if_pos trivial]
    · rw [if_neg h0]
      rw [if_neg (fun h => h0 h.1)] at hn
      subst hn
      rw [if_pos (by decide), if_pos (by decide), if_pos trivial]
  | succ d ih =>
    intro i n a hi hn0 ha0 hn ha
    have hlt : i < Q.length := by omega
    obtain ⟨hc, hne, hio⟩ := hq Q[i] (List.getElem_mem _)
    have hlq := can_len hc
    rw [List.drop_eq_getElem_cons hlt] at hn ha
    simp only [cntI, sumS] at hn ha
    have hcn := cntI_nonneg r (Q.drop (i + 1))
    have hsn := sumS_nonneg (Q := Q.drop (i + 1)) (fun q hq' => (hq q (List.mem_of_mem_drop hq')).1)
    have szq := size_ev Q[i] (by omega)
    rw [madeR_can hc] at szq
    obtain ⟨x, hx⟩ := hne
    have hp := szR_pos hc hx
    -- behind the test
    have hj1 : ∀ n', 0 ≤ n' → n' + cntI r (Q.drop (i + 1)) = (if 0 ≤ r ∧ r ≤ 1114111 then 1 else 0) → Ev (fun k => arboristlaw03_CharsetApart.j1 k l r Q n' a (i : Int)) true := by
      intro n' hn' he
      have h := ih (i + 1) n' (a + szR Q[i]) (by omega) hn' (by omega) he (by omega)
      have h1 := apart_l1 l hl hs r Q hQ i hlt hc ⟨x, hx⟩ hio n' (a + szR Q[i]) h l.length 0 (by omega)
      refine Ev_shift ?_
      simp only [arboristlaw03_CharsetApart.j1]
      refine Ev.congr (f := fun k => (charset_Size.f k Q[i]).bind fun t278 => ((charset_Size.f k Q[i]).bind fun t280 => (if t280 = 0 then (none) else (arboristlaw03_CharsetApart.l1 k l r Q n' (wrap64 (a + t278)) (i : Int) 0)))) (fun k => ?_) (Ev.bind szq (Ev.bind szq ?_))
      · rw [if_pos (by omega), if_pos (by omega), rd_L2_at Q i hlt]
      · refine Ev.congr (fun k => if_neg (by omega)) ?_
        rw [wrap64_of (x := a + szR Q[i]) (by omega) (by omega)]
        exact h1
    refine Ev_shift ?_
    simp only [arboristlaw03_CharsetApart.l0]
    by_cases hr : inS Q[i] r = true
    · rw [if_pos hr] at hn
      have hn1 : n + 1 ≤ 1 := by split at hn <;> omega
      refine Ev.congr (fun k => ?_) (hj1 (n + 1) (by omega) (by omega))
      rw [if_pos (by omega), if_pos (by omega), rd_L2_at Q i hlt, has_f Q[i] r (by omega), Option.bind_some, if_pos hr, wrap64_of (x := n + 1) (by omega) (by omega)]
    · rw [if_neg hr] at hn
      refine Ev.congr (fun k => ?_) (hj1 n hn0 (by omega))
      rw [if_pos (by omega), if_pos (by omega), rd_L2_at Q i hlt, has_f Q[i] r (by omega), Option.bind_some, if_neg hr]
theorem CharsetApart : arboristlaw03_CharsetApart.Pure := by
  intro l r hl hr
  suffices key : Ev (fun k => arboristlaw03_CharsetApart.f k l r) true by
    obtain ⟨K, hK⟩ := key
    exact ⟨K, hK K (Nat.le_refl _)⟩
  unfold arboristlaw03_CharsetApart.f
  obtain ⟨b, b1, b2⟩ := few_l0 l (by omega) l.length 0 (by omega)
  refine Ev.bind (a := b) b1 ?_
  cases b with
  | false => exact Ev.congr (fun k => if_neg (by simp)) (Ev.bind knows_ev (Ev.now true))
  | true =>
    obtain ⟨c1, c2⟩ := b2 rfl
    have hs : ∀ s ∈ l, s.length < 17592186044416 := fun s hs => by
      obtain ⟨j, hj, rfl⟩ := List.mem_iff_getElem.1 hs
      have := c2 j hj (Nat.zero_le _)
      omega
    obtain ⟨G, g1, g2, g3, g4, g5⟩ := parts_says l (by omega) hs
    refine Ev.congr (fun k => if_pos rfl) (Ev.bind g1 ?_)
    have hn := cntI_keys l r G g2 (fun g hg => (g4 g hg).2.1)
    have ha := sumS_keys l G g2 (fun g hg => ⟨(g4 g hg).1, (g4 g hg).2.1⟩)
    have hall : cnt (fun x => decide (x ≤ 1114111) && (G.map (·.1)).contains (keyB l x)) 1114112 = 1114112 := cnt_all 1114112 (fun x h0 h1 => by
      have h2 : (x : Int) ≤ 1114111 := by omega
      show (decide ((x : Int) ≤ 1114111) && (G.map (·.1)).contains (keyB l (x : Int))) = true
      rw [decide_eq_true h2, Bool.true_and, List.contains_iff_mem]
      exact g5 x ⟨by omega, h2⟩)
    rw [hall] at ha
    refine apart_l0 l c1 hs r (G.map setG) (by rw [List.length_map]; exact g3) (fun q hq => ?_) (G.map setG).length 0 0 0 (by omega) (Int.le_refl _) (Int.le_refl _) ?_ ?_
    · obtain ⟨g, hg, rfl⟩ := List.mem_map.1 hq
      obtain ⟨d1, d2, d3⟩ := g4 g hg
      exact ⟨d1, d3, fun s hs' => in_or_out hs' d2⟩
    · rw [List.drop_zero, hn, Int.zero_add]
      unfold inU at g5 ⊢
      by_cases hu : 0 ≤ r ∧ r ≤ 1114111
      · rw [if_pos hu, if_pos ⟨hu, g5 r hu⟩]
      · rw [if_neg hu, if_neg (fun h => hu h.1)]
    · rw [List.drop_zero, ha]; rfl
end Go.Proofs.Ytomccgpachmpbaa.Pure
