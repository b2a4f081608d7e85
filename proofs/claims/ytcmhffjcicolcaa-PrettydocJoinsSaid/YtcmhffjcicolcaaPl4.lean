/- Plain laws of documents: the flat layout. -/
import Derived.Test.YtcmhffjcicolcaaPAx7
import Derived.Test.YtcmhffjcicolcaaPAx19
import Derived.Test.YtcmhffjcicolcaaPl2
-- needs: prettydoc_Flat arboristref54_flat arboristref54_Flat
namespace Go.Proofs.Ytcmhffjcicolcaa.Pure
open Go.RowKit Go.Proofs.Ytcmhffjcicolcaa.PA Go.Proofs.YtcmhffjcicolcaaW.PrintWords Go.Proofs.YtcmhffjcicolcaaW.PrintLast Go.Proofs.YtcmhffjcicolcaaW.PrintMore
set_option linter.unusedVariables false
set_option linter.unusedSimpArgs false
theorem toList_loop (s : ByteArray) : ∀ (d i : Nat) (r : List UInt8), s.size - i = d → ByteArray.toList.loop s i r = r.reverse ++ s.data.toList.drop i := by
  have hz : s.size = s.data.toList.length := by simp
  intro d
  induction d with
  | zero =>
    intro i r hd
    unfold ByteArray.toList.loop
    rw [if_neg (by omega), List.drop_eq_nil_of_le (by omega), List.append_nil]
  | succ d ih =>
    intro i r hd
    unfold ByteArray.toList.loop
    have hlt : i < s.data.toList.length := by omega
    rw [if_pos (by omega), ih (i + 1) _ (by omega), List.drop_eq_getElem_cons hlt, List.reverse_cons, List.append_assoc]
    congr 1
    simp only [List.singleton_append, List.cons.injEq, and_true]
    unfold ByteArray.get!
    rw [Array.getElem_toList]
    exact getElem!_pos s.data i (by simpa using hlt)
theorem toList_data (s : ByteArray) : s.toList = s.data.toList := by
  unfold ByteArray.toList
  rw [toList_loop s s.size 0 [] (by omega)]
  simp
mutual
def hT : S25 → Bool
  | ⟨a, _, _, l⟩ => decide (a = 5) || hL l
def hL : List S25 → Bool
  | [] => false
  | y :: r => hT y || hL r
end
mutual
def tT : S25 → List UInt8
  | ⟨a, s, _, l⟩ => (if a = 3 then [32] else s.data.toList) ++ tL l
def tL : List S25 → List UInt8
  | [] => []
  | y :: r => tT y ++ tL r
end
mutual
def cT : S25 → Nat
  | ⟨_, s, _, l⟩ => 1 + s.size + cL l
def cL : List S25 → Nat
  | [] => 0
  | y :: r => cT y + cL r
end
theorem cT_eq : ∀ x : S25, cT x = nodes x + texts x := by
  intro x
  induction x using tree_ind with
  | h x ih =>
    obtain ⟨a, s, b, l⟩ := x
    simp only [cT, nodes, texts]
    have : ∀ l' : List S25, (∀ y ∈ l', cT y = nodes y + texts y) → cL l' = nodesL l' + textsL l' := by
      intro l'
      induction l' with
      | nil => intro _; simp [cL, nodesL, textsL]
      | cons y r ih2 =>
        intro hy
        simp only [cL, nodesL, textsL]
        have h1 := hy y (by simp)
        have h2 := ih2 (fun z hz => hy z (by simp [hz]))
        omega
    have := this l (fun y hy => ih y hy)
    omega
theorem tT_len : ∀ x : S25, (tT x).length ≤ cT x := by
  intro x
  induction x using tree_ind with
  | h x ih =>
    obtain ⟨a, s, b, l⟩ := x
    simp only [cT, tT, List.length_append]
    have : ∀ l' : List S25, (∀ y ∈ l', (tT y).length ≤ cT y) → (tL l').length ≤ cL l' := by
      intro l'
      induction l' with
      | nil => intro _; simp [cL, tL]
      | cons y r ih2 =>
        intro hy
        simp only [cL, tL, List.length_append]
        have h1 := hy y (by simp)
        have h2 := ih2 (fun z hz => hy z (by simp [hz]))
        omega
    have := this l (fun y hy => ih y hy)
    have hz : s.size = s.data.toList.length := by simp
    split
    · simp only [List.length_singleton]; omega
    · omega
/-- No fault in any node. -/
theorem aL_mem : ∀ {l : List S25}, aL l = 0 → ∀ y ∈ l, aT y = 0 := by
  intro l
  induction l with
  | nil => intro _ y hy; exact absurd hy (by simp)
  | cons z r ih =>
    intro h y hy
    simp only [aL] at h
    by_cases h0 : aT z = 0
    · rw [if_pos h0] at h
      rcases List.mem_cons.1 hy with rfl | hy
      · exact h0
      · exact ih h y hy
    · rw [if_neg h0] at h; exact absurd h h0
theorem node_ok {a : Int} {s : ByteArray} {b : Int} {n : Nat} (h : nodeE a s b n = 0) : (s.data.toList ≠ [] → a = 2) ∧ (a ≠ 6 → a ≠ 7 → a ≠ 8 → n = 0) := by
  unfold nodeE at h
  split at h
  · cases h
  · rename_i h1
    split at h
    · cases h
    · rename_i h2
      refine ⟨fun hs => ?_, fun h6 h7 h8 => ?_⟩
      · rw [← toList_data] at hs
        by_cases h3 : a = 2
        · exact h3
        · exact absurd (.inr (.inr (.inl ⟨hs, h3⟩))) h1
      · by_cases h3 : n = 0
        · exact h3
        · exact absurd (.inr ⟨h6, h7, h8, h3⟩) h2
theorem tree_ok {a : Int} {s : ByteArray} {b : Int} {l : List S25} (h : aT ⟨a, s, b, l⟩ = 0) : nodeE a s b l.length = 0 ∧ ∀ y ∈ l, aT y = 0 := by
  simp only [aT] at h
  by_cases h0 : nodeE a s b l.length = 0
  · rw [if_pos h0] at h
    exact ⟨h0, aL_mem h⟩
  · rw [if_neg h0] at h; exact absurd h h0
theorem pflat_ev : ∀ (x : S25), W25 x → aT x = 0 → ∀ acc : List UInt8, acc.length + cT x ≤ 140737488355328 → ∃ out, Ev (fun k => prettydoc_Flat_1.f k x.f0 x.f1 x.f3 acc) (!hT x, out) ∧ (hT x = false → out = acc ++ tT x) := by
  intro x
  induction x using tree_ind with
  | h x ih =>
    intro hw hok acc hacc
    have h := W25.out hw
    obtain ⟨a, s, b, l⟩ := x
    obtain ⟨hn, hk⟩ := tree_ok hok
    obtain ⟨n1, n2⟩ := node_ok hn
    simp only at h ih ⊢
    simp only [cT] at hacc
    simp only [hT, tT]
    have loop : ∀ (d i : Nat), l.length - i = d → i ≤ l.length → ∀ acc : List UInt8, acc.length + cL (l.drop i) ≤ 140737488355328 → ∃ out, Ev (fun k => prettydoc_Flat_1.l0 k l (i : Int) acc) (!hL (l.drop i), out) ∧ (hL (l.drop i) = false → out = acc ++ tL (l.drop i)) := by
      intro d
      induction d with
      | zero =>
        intro i hd hi acc hacc
        have : i = l.length := by omega
        subst this
        rw [List.drop_length]
        simp only [hL, tL]
        refine ⟨acc, Ev.step (f := fun _ => some (true, acc)) (fun k => ?_) (Ev.now _), fun _ => by simp⟩
        simp only [prettydoc_Flat_1.l0]
        rw [if_neg (by omega)]
      | succ d ihd =>
        intro i hd hi acc hacc
        have hlt : i < l.length := by omega
        rw [List.drop_eq_getElem_cons hlt] at hacc ⊢
        simp only [hL, tL]
        simp only [cL] at hacc
        obtain ⟨o1, e1, t1⟩ := ih l[i] (List.getElem_mem _) (h.2.2.2.2 _ (List.getElem_mem _)) (hk _ (List.getElem_mem _)) acc (by omega)
        by_cases h0 : hT l[i] = true
        · refine ⟨o1, ?_, fun hc => by rw [h0] at hc; simp at hc⟩
          rw [h0] at e1 ⊢
          refine Ev.step (f := fun k => (prettydoc_Flat_1.f k l[i].f0 l[i].f1 l[i].f3 acc).bind fun m => (if m.1 = true then prettydoc_Flat_1.l0 k l (wrap64 ((i : Int) + 1)) m.2 else some (false, m.2))) (fun k => ?_) (Ev.bind e1 (Ev.now _))
          simp only [prettydoc_Flat_1.l0]
          rw [if_pos (by omega), rd_at l i hlt]
        · have h0' := Bool.eq_false_iff.2 h0
          have t2 := t1 h0'
          subst t2
          have hl := tT_len l[i]
          obtain ⟨o2, e2, t3⟩ := ihd (i + 1) (by omega) (by omega) (acc ++ tT l[i]) (by rw [List.length_append]; omega)
          refine ⟨o2, ?_, fun hc => ?_⟩
          · rw [h0'] at e1 ⊢
            refine Ev.step (f := fun k => (prettydoc_Flat_1.f k l[i].f0 l[i].f1 l[i].f3 acc).bind fun m => (if m.1 = true then prettydoc_Flat_1.l0 k l (wrap64 ((i : Int) + 1)) m.2 else some (false, m.2))) (fun k => ?_) (Ev.bind e1 ?_)
            · simp only [prettydoc_Flat_1.l0]
              rw [if_pos (by omega), rd_at l i hlt]
            · rw [wrap_succ i l.length hlt h.2.2.2.1]
              simp only [Bool.not_false, if_true, Bool.false_or]
              exact e2
          · rw [h0', Bool.false_or] at hc
            rw [t3 hc, List.append_assoc]
    have fin : ∀ acc2 : List UInt8, acc2.length + cL l ≤ 140737488355328 → a ≠ 5 → acc2 = acc ++ (if a = 3 then [32] else s.data.toList) → (∀ k, prettydoc_Flat_1.f (k + 1) a s l acc = prettydoc_Flat_1.l0 k l 0 acc2) → ∃ out, Ev (fun k => prettydoc_Flat_1.f k a s l acc) (!(decide (a = 5) || hL l), out) ∧ ((decide (a = 5) || hL l) = false → out = acc ++ ((if a = 3 then [32] else s.data.toList) ++ tL l)) := by
      intro acc2 h2 h5 he hs
      obtain ⟨out, e1, t1⟩ := loop l.length 0 (by omega) (by omega) acc2 (by rw [List.drop_zero]; exact h2)
      rw [List.drop_zero] at e1 t1
      refine ⟨out, ?_, fun hc => ?_⟩
      · rw [decide_eq_false h5, Bool.false_or]
        exact Ev.step (f := fun k => prettydoc_Flat_1.l0 k l 0 acc2) hs e1
      · rw [decide_eq_false h5, Bool.false_or] at hc
        rw [t1 hc, he, List.append_assoc]
    have hz : s.size = s.data.toList.length := by simp
    by_cases c2 : a = 2
    · refine fin (acc ++ s.data.toList) (by rw [List.length_append]; omega) (by omega) (by rw [if_neg (by omega)]) (fun k => ?_)
      simp only [prettydoc_Flat_1.f]
      rw [if_pos c2, if_pos (by omega)]
    · have hs : s.data.toList = [] := by
        by_cases h3 : s.data.toList = []
        · exact h3
        · exact absurd (n1 h3) c2
      by_cases c3 : a = 3
      · refine fin (acc ++ [32]) (by rw [List.length_append, List.length_singleton]; omega) (by omega) (by rw [if_pos c3]) (fun k => ?_)
        simp only [prettydoc_Flat_1.f]
        rw [if_neg c2, if_pos c3, if_pos (by omega)]
      · by_cases c5 : a = 5
        · refine ⟨acc, ?_, fun hc => by rw [decide_eq_true c5] at hc; simp at hc⟩
          rw [decide_eq_true c5]
          refine Ev.step (f := fun _ => some (false, acc)) (fun k => ?_) (Ev.now _)
          simp only [prettydoc_Flat_1.f]
          rw [if_neg c2, if_neg c3, if_pos c5]
        · refine fin acc (by omega) c5 (by rw [if_neg c3, hs, List.append_nil]) (fun k => ?_)
          simp only [prettydoc_Flat_1.f]
          rw [if_neg c2, if_neg c3, if_neg c5]
theorem bytes_ext {s t : ByteArray} (h : s.data.toList = t.data.toList) : s = t := by
  cases s with | mk d => cases t with | mk e => simp only at h; rw [Array.toList_inj.1 h]
theorem rflat_ev : ∀ (x : S25), W25 x → aT x = 0 → cT x ≤ 140737488355328 → ∃ out, Ev (fun k => arboristref54_flat.f k x.f0 x.f1 x.f2 x.f3) (out, !hT x) ∧ (hT x = false → out.data.toList = tT x) := by
  intro x
  induction x using tree_ind with
  | h x ih =>
    intro hw hok hc
    have h := W25.out hw
    obtain ⟨a, s, b, l⟩ := x
    obtain ⟨hn, hk⟩ := tree_ok hok
    obtain ⟨n1, n2⟩ := node_ok hn
    simp only at h ih ⊢
    simp only [cT] at hc
    simp only [hT, tT]
    have loop : a ≠ 5 → ∀ (d i : Nat), l.length - i = d → i ≤ l.length → ∀ acc : ByteArray, acc.size + cL (l.drop i) ≤ 140737488355328 → ∃ out, Ev (fun k => arboristref54_flat.l0 k acc (i : Int) a s b l) (out, !hL (l.drop i)) ∧ (hL (l.drop i) = false → out.data.toList = acc.data.toList ++ tL (l.drop i)) := by
      intro h5 d
      induction d with
      | zero =>
        intro i hd hi acc hacc
        have : i = l.length := by omega
        subst this
        rw [List.drop_length]
        simp only [hL, tL]
        refine ⟨acc, Ev.step (f := fun _ => some (acc, true)) (fun k => ?_) (Ev.now _), fun _ => by simp⟩
        simp only [arboristref54_flat.l0]
        rw [if_neg (by omega), bne_iff_ne.2 h5]
      | succ d ihd =>
        intro i hd hi acc hacc
        have hlt : i < l.length := by omega
        rw [List.drop_eq_getElem_cons hlt] at hacc ⊢
        simp only [hL, tL]
        simp only [cL] at hacc
        obtain ⟨o1, e1, t1⟩ := ih l[i] (List.getElem_mem _) (h.2.2.2.2 _ (List.getElem_mem _)) (hk _ (List.getElem_mem _)) (by omega)
        have step : ∀ k, arboristref54_flat.l0 (k + 1) acc (i : Int) a s b l = (arboristref54_flat.f k l[i].f0 l[i].f1 l[i].f2 l[i].f3).bind fun bt259 => (if bt259.2 = true then (if acc.size + bt259.1.size ≤ 9223372036854775807 then (arboristref54_flat.l0 k (acc ++ bt259.1) (wrap64 ((i : Int) + 1)) a s b l) else (none)) else (some ((⟨#[]⟩ : ByteArray), false))) := by
          intro k
          simp only [arboristref54_flat.l0]
          rw [if_pos (by omega), if_pos (by omega), rd_at l i hlt]
        by_cases h0 : hT l[i] = true
        · refine ⟨⟨#[]⟩, ?_, fun hc => by rw [h0] at hc; simp at hc⟩
          rw [h0] at e1 ⊢
          exact Ev.step (f := _) step (Ev.bind e1 (Ev.now _))
        · have h0' := Bool.eq_false_iff.2 h0
          have t2 := t1 h0'
          have hl := tT_len l[i]
          have hz : o1.size = o1.data.toList.length := by simp
          have hza : (acc ++ o1).size = acc.size + o1.size := by simp
          obtain ⟨o2, e2, t3⟩ := ihd (i + 1) (by omega) (by omega) (acc ++ o1) (by rw [hza, hz, t2]; omega)
          refine ⟨o2, ?_, fun hc => ?_⟩
          · rw [h0'] at e1 ⊢
            refine Ev.step (f := _) step (Ev.bind e1 ?_)
            rw [wrap_succ i l.length hlt h.2.2.2.1]
            simp only [Bool.not_false, if_true, Bool.false_or]
            simp only [if_pos (show acc.size + o1.size ≤ 9223372036854775807 by rw [hz, t2]; omega)]
            exact e2
          · rw [h0', Bool.false_or] at hc
            rw [t3 hc, ByteArray.data_append, Array.toList_append, t2, List.append_assoc]
    have fin : ∀ acc : ByteArray, acc.size + cL l ≤ 140737488355328 → a ≠ 5 → acc.data.toList = (if a = 3 then [32] else s.data.toList) → (∀ k, arboristref54_flat.f (k + 1) a s b l = arboristref54_flat.j0 k acc a s b l) → ∃ out, Ev (fun k => arboristref54_flat.f k a s b l) (out, !(decide (a = 5) || hL l)) ∧ ((decide (a = 5) || hL l) = false → out.data.toList = (if a = 3 then [32] else s.data.toList) ++ tL l) := by
      intro acc h2 h5 he hs
      obtain ⟨out, e1, t1⟩ := loop h5 l.length 0 (by omega) (by omega) acc (by rw [List.drop_zero]; exact h2)
      rw [List.drop_zero] at e1 t1
      refine ⟨out, ?_, fun hc => ?_⟩
      · rw [decide_eq_false h5, Bool.false_or]
        refine Ev.step (f := fun k => arboristref54_flat.j0 k acc a s b l) hs (Ev.step (f := fun k => arboristref54_flat.l0 k acc 0 a s b l) (fun k => ?_) e1)
        simp only [arboristref54_flat.j0]
      · rw [decide_eq_false h5, Bool.false_or] at hc
        rw [t1 hc, he]
    by_cases c3 : a = 3
    · refine fin ⟨#[32]⟩ (by show 1 + cL l ≤ _; omega) (by omega) (by rw [if_pos c3]) (fun k => ?_)
      simp only [arboristref54_flat.f]
      rw [if_pos c3]
    · by_cases c5 : a = 5
      · have hl : l = [] := by
          have := n2 (by omega) (by omega) (by omega)
          exact List.length_eq_zero_iff.1 this
        subst hl
        refine ⟨s, ?_, fun hc => by rw [decide_eq_true c5] at hc; simp at hc⟩
        rw [decide_eq_true c5]
        refine Ev.step (f := fun k => arboristref54_flat.j0 k s a s b []) (fun k => ?_) (Ev.step (f := fun k => arboristref54_flat.l0 k s 0 a s b []) (fun k => ?_) (Ev.step (f := fun _ => some (s, false)) (fun k => ?_) (Ev.now _)))
        · simp only [arboristref54_flat.f]; rw [if_neg c3]
        · simp only [arboristref54_flat.j0]
        · simp only [arboristref54_flat.l0]
          rw [if_neg (by simp), bne_eq_false_iff_eq.2 c5]
      · refine fin s (by omega) c5 (by rw [if_neg c3]) (fun k => ?_)
        simp only [arboristref54_flat.f]
        rw [if_neg c3]
end Go.Proofs.Ytcmhffjcicolcaa.Pure
