/- Parts: what it answers. -/
import Derived.Test.YtomccgpachmpbaaPBx6
import Derived.Test.YtomccgpachmpbaaQl6
-- needs: charset_Parts
namespace Go.Proofs.Ytomccgpachmpbaa.Pure
open Go.RowKit Go.Proofs.Ytomccgpachmpbaa.PB Go.Proofs.YtomccgpachmpbaaW.PrintWords Go.Proofs.YtomccgpachmpbaaW.PrintLast Go.Proofs.YtomccgpachmpbaaW.PrintMore
set_option linter.unusedVariables false

def keysG (G : List (List Bool × List S41)) : List ByteArray := G.map (fun g => kb g.1)
def segsG (G : List (List Bool × List S41)) : List (List S41) := G.map (·.2)
theorem keysG_len (G : List (List Bool × List S41)) : (keysG G).length = G.length := List.length_map ..
theorem segsG_len (G : List (List Bool × List S41)) : (segsG G).length = G.length := List.length_map ..
theorem parts_l2 (l : List (List S41)) (hl : l.length < 1000000) (hs : ∀ s ∈ l, s.length < 17592186044416) (e : List Int) (he : Good e) (hc : ∀ s ∈ l, ∀ y ∈ madeR s, cov e y) : ∀ (d i : Nat) (G : List (List Bool × List S41)), i + d = e.length → Inv l e i G →
    ∃ G', Inv l e e.length G' ∧ ∀ R, Ev (fun k => charset_Parts.l3 k (keysG G') [] [] (segsG G') (G'.length : Int) 0) R → Ev (fun k => charset_Parts.l2 k l e (keysG G) (segsG G) e (e.length : Int) (i : Int)) R := by
  have hlen := he.len
  intro d
  induction d with
  | zero =>
    intro i G hi h
    obtain rfl : i = e.length := by omega
    refine ⟨G, h, fun R hR => Ev.step (fun k => ?_) hR⟩
    simp only [charset_Parts.l2]
    rw [if_neg (by omega), segsG_len]
  | succ d ih =>
    intro i G hi h
    have hlt : i < e.length := by omega
    obtain ⟨n1, n2, n3⟩ := he.nx_lt hlt
    have hg := h.glen
    have hconst : ∀ x, nx e i ≤ x → x < nx e (i + 1) → keyB l x = keyB l (nx e i) := fun x h0 h1 => key_const he hc hlt h0 h1
    -- to the join
    have hcall : ∀ R, Ev (fun k => (charset_Parts_1.f k (nx e i) l).bind fun t171 => ((slices_Index_string_string.f k (keysG G) t171).bind fun t172 => (if t172 < 0 then (charset_Parts.l2 k l e (keysG G ++ [t171]) (segsG G ++ [[⟨nx e i, nx e (i + 1) - 1⟩]]) e (e.length : Int) ((i + 1 : Nat) : Int)) else (if 0 ≤ t172 then (if t172 < ((segsG G).length : Int) then (if (rd_L2 (segsG G) t172).length < 17592186044416 then (charset_Parts.l2 k l e (keysG G) ((segsG G).set (t172 : Int).toNat ((rd_L2 (segsG G) t172) ++ [⟨nx e i, nx e (i + 1) - 1⟩])) e (e.length : Int) ((i + 1 : Nat) : Int)) else none) else none) else none)))) R →
        Ev (fun k => charset_Parts.l2 k l e (keysG G) (segsG G) e (e.length : Int) (i : Int)) R := by
      intro R hR
      refine Ev.step (f := fun k => charset_Parts.j3 k l e (keysG G) (segsG G) (nx e i) e (e.length : Int) (i : Int) (nx e i) (nx e (i + 1) - 1)) (fun k => ?_) (Ev.step (fun k => ?_) hR)
      · simp only [charset_Parts.l2]
        rw [if_pos (by omega), if_pos (by omega), if_pos (by omega), wrap_succ hlt (by omega), rd_int e i hlt, ← nx_at hlt]
        by_cases h2 : i + 1 < e.length
        · rw [if_pos (by omega), if_pos (by omega), rd_int e (i + 1) h2, ← nx_at h2, wrap32_of (by omega) (by omega)]
        · rw [if_neg (by omega), show nx e (i + 1) = 1114112 from nx_end (by omega)]; rfl
      · simp only [charset_Parts.j3]
        rw [wrap_succ hlt (by omega)]
        congr 1; funext t171; congr 1; funext t172
        by_cases ht : t172 < 0
        · rw [if_pos ht, if_pos ht, if_pos (by rw [keysG_len]; omega), if_pos (by rw [segsG_len]; omega), Option.bind_some, if_pos (by omega), if_pos (by rw [keysG_len, List.length_append, segsG_len, List.length_singleton]; omega)]
          have e1 : rd_L2 (segsG G ++ [[]]) ((keysG G).length : Int) = [] := by
            rw [rd_L2_at _ _ (by rw [keysG_len, List.length_append, segsG_len, List.length_singleton]; omega)]
            rw [List.getElem_append_right (by rw [keysG_len, segsG_len]; omega)]
            simp
          have e2 : (segsG G ++ [[]]).set ((keysG G).length : Int).toNat ([] ++ [(⟨nx e i, nx e (i + 1) - 1⟩ : S41)]) = segsG G ++ [[⟨nx e i, nx e (i + 1) - 1⟩]] := by
            rw [Int.toNat_natCast, List.set_append_right _ _ (by rw [keysG_len, segsG_len]; omega), keysG_len, segsG_len, Nat.sub_self]; rfl
          rw [e1, e2, if_pos (by simp)]
        · rw [if_neg ht, if_neg ht]
    have kev := key_ev l (by omega) hs (nx e i)
    obtain ⟨t, iev, it⟩ := index_l0 (keysG G) (by rw [keysG_len]; omega) (kb (keyB l (nx e i))) (keysG G).length 0 (by omega)
    have iev' : Ev (fun k => slices_Index_string_string.f k (keysG G) (kb (keyB l (nx e i)))) t := iev
    rcases it with ⟨rfl, hno⟩ | ⟨j, rfl, hj, hjk⟩
    · have hb : keyB l (nx e i) ∉ G.map (·.1) := by
        intro hm
        obtain ⟨g, hg, hgb⟩ := List.mem_map.1 hm
        obtain ⟨j, hj, rfl⟩ := List.mem_iff_getElem.1 hg
        refine hno j (by rw [keysG_len]; exact hj) (Nat.zero_le _) ?_
        rw [show (keysG G)[j]'(by rw [keysG_len]; exact hj) = kb G[j].1 from List.getElem_map .., hgb]
      obtain ⟨G', g1, g2⟩ := ih (i + 1) (G ++ [(keyB l (nx e i), [⟨nx e i, nx e (i + 1) - 1⟩])]) (by omega) (h.new hb n1 n2 rfl (by simp only; omega) hconst)
      refine ⟨G', g1, fun R hR => hcall R (Ev.bind kev (Ev.bind iev' ?_))⟩
      have h2 := g2 R hR
      rw [show keysG (G ++ [(keyB l (nx e i), [⟨nx e i, nx e (i + 1) - 1⟩])]) = keysG G ++ [kb (keyB l (nx e i))] by simp [keysG], show segsG (G ++ [(keyB l (nx e i), [⟨nx e i, nx e (i + 1) - 1⟩])]) = segsG G ++ [[⟨nx e i, nx e (i + 1) - 1⟩]] by simp [segsG]] at h2
      exact Ev.congr (fun k => by rw [if_pos (by omega)]) h2
    · rw [keysG_len] at hj
      have hb : keyB l (nx e i) = G[j].1 := kb_inj (by rw [hjk, show (keysG G)[j]'(by rw [keysG_len]; exact hj) = kb G[j].1 from List.getElem_map ..])
      have hG : G = G.take j ++ (keyB l (nx e i), G[j].2) :: G.drop (j + 1) := by
        have : G = G.take j ++ G.drop j := (List.take_append_drop j G).symm
        rw [List.drop_eq_getElem_cons hj] at this
        rw [hb]
        exact this
      have hlj := h.len G[j] (List.getElem_mem _)
      have hinv : Inv l e i (G.take j ++ (keyB l (nx e i), G[j].2) :: G.drop (j + 1)) := hG ▸ h
      obtain ⟨G', g1, g2⟩ := ih (i + 1) (G.take j ++ (keyB l (nx e i), G[j].2 ++ [⟨nx e i, nx e (i + 1) - 1⟩]) :: G.drop (j + 1)) (by omega) (hinv.found (by omega) n2 rfl (by simp only; omega) hconst)
      refine ⟨G', g1, fun R hR => hcall R (Ev.bind kev (Ev.bind iev' ?_))⟩
      have h2 := g2 R hR
      have e1 : keysG (G.take j ++ (keyB l (nx e i), G[j].2 ++ [⟨nx e i, nx e (i + 1) - 1⟩]) :: G.drop (j + 1)) = keysG G := by
        have h3 := congrArg keysG hG
        rw [h3]; simp [keysG]
      have e0 : rd_L2 (segsG G) (j : Int) = G[j].2 := by
        rw [rd_L2_at _ _ (by rw [segsG_len]; exact hj)]
        exact List.getElem_map ..
      have e2 : segsG (G.take j ++ (keyB l (nx e i), G[j].2 ++ [⟨nx e i, nx e (i + 1) - 1⟩]) :: G.drop (j + 1)) = (segsG G).set j (G[j].2 ++ [⟨nx e i, nx e (i + 1) - 1⟩]) := by
        have h3 : segsG G = segsG (G.take j) ++ G[j].2 :: segsG (G.drop (j + 1)) := by
          have := congrArg segsG hG
          rw [this]; simp [segsG]
        rw [h3, List.set_append_right _ _ (by rw [segsG_len, List.length_take]; omega), segsG_len, List.length_take, show j - min j G.length = 0 by omega]
        simp [segsG]
      rw [e1, e2] at h2
      refine Ev.congr (fun k => ?_) h2
      rw [if_neg (by omega), if_pos (by omega), if_pos (by rw [segsG_len]; omega), e0, if_pos (by omega), Int.toNat_natCast]
def setG (g : List Bool × List S41) : List S41 := ofR g.2
def hasG (g : List Bool × List S41) : Bool := g.1.any id
theorem parts_l3 (G : List (List Bool × List S41)) (hG : G.length ≤ 1114112) (hl : ∀ g ∈ G, g.2.length < 17592186044416 ∧ g.1.length < 17592186044416) : ∀ (d i : Nat) (o r : List (List S41)), i + d = G.length → o.length + r.length ≤ i →
    Ev (fun k => charset_Parts.l3 k (keysG G) o r (segsG G) (G.length : Int) (i : Int)) ((o ++ ((G.drop i).filter hasG).map setG) ++ (r ++ ((G.drop i).filter (fun g => !hasG g)).map setG)) := by
  intro d
  induction d with
  | zero =>
    intro i o r hi ho
    rw [List.drop_eq_nil_of_le (by omega)]
    simp only [List.filter_nil, List.map_nil, List.append_nil]
    refine Ev.step (f := fun _ => some (o ++ r)) (fun k => ?_) (Ev.now _)
    simp only [charset_Parts.l3, slices_order2Ordered_rune.f]
    rw [if_neg (by omega), if_pos (by omega)]; rfl
  | succ d ih =>
    intro i o r hi ho
    have hlt : i < G.length := by omega
    have hg := hl G[i] (List.getElem_mem _)
    have e0 : rd_L2 (segsG G) (i : Int) = G[i].2 := by
      rw [rd_L2_at _ _ (by rw [segsG_len]; exact hlt)]
      exact List.getElem_map ..
    have e1 : rdOf ByteArray.empty (keysG G) (i : Int) = kb G[i].1 := by
      rw [rdOf_at _ _ (by rw [keysG_len]; exact hlt)]
      exact List.getElem_map ..
    rw [List.drop_eq_getElem_cons hlt]
    have hcall : ∀ R, Ev (fun k => (slices_Contains_byte_byte.f k (kb G[i].1) 49).bind fun t => (charset_Of.f k G[i].2).bind fun u => if t = true then charset_Parts.l3 k (keysG G) (o ++ [u]) r (segsG G) (G.length : Int) ((i + 1 : Nat) : Int) else charset_Parts.l3 k (keysG G) o (r ++ [u]) (segsG G) (G.length : Int) ((i + 1 : Nat) : Int)) R →
        Ev (fun k => charset_Parts.l3 k (keysG G) o r (segsG G) (G.length : Int) (i : Int)) R := by
      intro R hR
      refine Ev.step (fun k => ?_) hR
      simp only [charset_Parts.l3]
      rw [if_pos (by omega), if_pos (by omega), if_pos (by rw [segsG_len]; omega), if_pos (by rw [keysG_len]; omega), e0, e1, wrap_succ hlt (by omega)]
      congr 1; funext t
      cases t with
      | true =>
        rw [if_pos rfl]
        congr 1; funext u
        rw [if_pos (by omega), if_pos rfl]
      | false =>
        rw [if_neg (by simp)]
        congr 1; funext u
        rw [if_pos (by omega), if_neg (by simp)]
    refine hcall _ (Ev.bind (has1_ev G[i].1 hg.2) (Ev.bind (of_ev G[i].2 hg.1) ?_))
    by_cases hh : hasG G[i] = true
    · rw [List.filter_cons_of_pos hh, List.filter_cons_of_neg (by simp [hh])]
      have h := ih (i + 1) (o ++ [setG G[i]]) r (by omega) (by rw [List.length_append, List.length_singleton]; omega)
      rw [List.append_assoc o] at h
      exact Ev.congr (fun k => by rw [if_pos (show G[i].1.any id = true from hh)]; rfl) h
    · rw [List.filter_cons_of_neg hh, List.filter_cons_of_pos (by simp [hh])]
      have h := ih (i + 1) o (r ++ [setG G[i]]) (by omega) (by rw [List.length_append, List.length_singleton]; omega)
      rw [List.append_assoc r] at h
      exact Ev.congr (fun k => by rw [if_neg (show ¬ G[i].1.any id = true from hh)]; rfl) h
def outG (G : List (List Bool × List S41)) : List (List Bool × List S41) := G.filter hasG ++ G.filter (fun g => !hasG g)
theorem outG_perm (G : List (List Bool × List S41)) : (outG G).Perm G := by
  unfold outG
  exact List.filter_append_perm hasG G
theorem parts_ev (l : List (List S41)) (hl : l.length < 1000000) (hs : ∀ s ∈ l, s.length < 17592186044416) :
    ∃ G, Inv l (startsR l) (startsR l).length G ∧ Ev (fun k => charset_Parts.f k l) ((outG G).map setG) := by
  obtain ⟨he, hc⟩ := startsR_spec l
  have hn := he.len
  obtain ⟨G, g1, g2⟩ := parts_l2 l hl hs (startsR l) he hc (startsR l).length 0 [] (by omega) (by
    refine ⟨by simp, fun g hg => absurd hg (by simp), fun x h0 h1 => ?_, fun g hg => absurd hg (by simp), fun g hg => absurd hg (by simp), by simp, List.Pairwise.nil⟩
    rw [he.nx_zero] at h1
    omega)
  refine ⟨G, g1, ?_⟩
  have hkey : ∀ g ∈ G, g.1.length = l.length := fun g hg => by
    obtain ⟨x, hx⟩ := g1.some g hg
    rw [← ((g1.mem g hg x).1 hx).2.2]
    exact List.length_map ..
  have h3 := parts_l3 G (by have := g1.glen; omega) (fun g hg => ⟨by have := g1.len g hg; omega, by rw [hkey g hg]; omega⟩) G.length 0 [] [] (by omega) (by simp)
  rw [List.drop_zero, List.nil_append, List.nil_append, ← List.map_append] at h3
  have h4 := g2 _ h3
  have h5 := starts_l0 l hl hs (r := (outG G).map setG) l.length 0 [0] (by omega) (by simp) (by
    rw [List.drop_zero]
    refine Ev.step (fun k => ?_) h4
    simp only [charset_Parts.l0, slices_Sort_rune_rune.f, slices_Compact_rune_rune.f]
    have hf := frA_len l
    have hp := (sortI_perm (0 :: frA l)).length_eq
    rw [List.length_cons] at hp
    rw [if_neg (by omega), show ([0] ++ frA l : List Int) = 0 :: frA l from rfl, if_pos (by rw [List.length_cons]; omega), Option.bind_some, if_pos (by omega), Option.bind_some]
    rfl)
  exact h5
/-- What Parts answers, by its keys. -/
theorem parts_says (l : List (List S41)) (hl : l.length < 1000000) (hs : ∀ s ∈ l, s.length < 17592186044416) :
    ∃ G : List (List Bool × List S41), Ev (fun k => charset_Parts.f k l) (G.map setG) ∧ (G.map (·.1)).Nodup ∧ G.length ≤ 1114112 ∧ (∀ g ∈ G, Can (setG g) ∧ (∀ x, mem (setG g) x ↔ inU x ∧ keyB l x = g.1) ∧ ∃ x, mem (setG g) x) ∧ (∀ x, inU x → keyB l x ∈ G.map (·.1)) := by
  obtain ⟨G, g1, g2⟩ := parts_ev l hl hs
  have hp := outG_perm G
  obtain ⟨he, _⟩ := startsR_spec l
  have hn := he.len
  have hx : nx (startsR l) (startsR l).length = 1114112 := nx_end (Nat.le_refl _)
  refine ⟨outG G, g2, (hp.map (·.1)).nodup_iff.2 g1.nodup, by rw [hp.length_eq]; have := g1.glen; omega, fun g hg => ?_, fun x hxu => ?_⟩
  · have hg' := hp.mem_iff.1 hg
    obtain ⟨c, m⟩ := ofR_spec g.2
    have m' : ∀ x, mem (setG g) x ↔ inU x ∧ keyB l x = g.1 := fun x => by
      show mem (ofR g.2) x ↔ _
      rw [m, g1.mem g hg' x, hx]
      unfold inU
      constructor
      · rintro ⟨a, _, _, b⟩; exact ⟨a, b⟩
      · rintro ⟨a, b⟩; exact ⟨a, a.1, by omega, b⟩
    refine ⟨c, m', ?_⟩
    obtain ⟨x, h⟩ := g1.some g hg'
    have h2 := (g1.mem g hg' x).1 h
    rw [hx] at h2
    exact ⟨x, (m' x).2 ⟨by unfold inU; omega, h2.2.2⟩⟩
  · unfold inU at hxu
    have h1 := g1.all x hxu.1 (by rw [hx]; omega)
    exact (hp.map (·.1)).mem_iff.2 h1
end Go.Proofs.Ytomccgpachmpbaa.Pure
