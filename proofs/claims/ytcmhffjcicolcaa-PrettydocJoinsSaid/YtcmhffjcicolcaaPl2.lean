/- Plain laws of documents: a single node's faults, the first fault, Right. -/
import Derived.Test.YtcmhffjcicolcaaPAx3
import Derived.Test.YtcmhffjcicolcaaPAx4
import Derived.Test.YtcmhffjcicolcaaPAx12
import Derived.Test.YtcmhffjcicolcaaPAx13
import Derived.Test.YtcmhffjcicolcaaPl1
-- needs: prettydoc_one prettydoc_all prettydoc_Right arboristref54_node arboristref54_nodes arboristref54_Right
namespace Go.Proofs.Ytcmhffjcicolcaa.Pure
open Go.RowKit Go.Proofs.Ytcmhffjcicolcaa.PA Go.Proofs.YtcmhffjcicolcaaW.PrintWords Go.Proofs.YtcmhffjcicolcaaW.PrintLast Go.Proofs.YtcmhffjcicolcaaW.PrintMore
theorem index_line (s : ByteArray) : (Lib.indexByte s.data.toList (10 : Int).toNat.toUInt8 ≥ 0) ↔ lineB s = true := indexByte_any _
set_option maxHeartbeats 2000000 in
theorem one_at (k : Nat) (a : Int) (s : ByteArray) (b : Int) (l : List S25) : prettydoc_one.f (k + 4) a s b l = some (nodeE a s b l.length) := by
  have hi := index_line s
  have e1 : ((l.length : Int) = 1) ↔ l.length = 1 := by omega
  have e0 : ((l.length : Int) = 0) ↔ l.length = 0 := by omega
  unfold prettydoc_one.f nodeE
  simp only [prettydoc_one.j0, prettydoc_one.j1, prettydoc_one.j2, prettydoc_one.j3, strings_IndexByte.f, Option.bind_some, hi, e1, e0]
  generalize lineB s = q
  generalize l.length = n
  by_cases h1 : a < 1
  · simp [h1]
  by_cases h2 : a > 8
  · simp [h1, h2]
  by_cases h3 : s.toList = []
  all_goals by_cases h4 : a = 2
  all_goals by_cases h5 : b = 0
  all_goals by_cases h6 : a = 6
  all_goals by_cases h7 : a = 7
  all_goals by_cases h8 : a = 8
  all_goals first | (exfalso; omega) | skip
  all_goals by_cases h9 : n = 1
  all_goals by_cases h10 : n = 0
  all_goals first | (exfalso; omega) | skip
  all_goals by_cases h11 : b < 0
  all_goals by_cases h12 : b > 200
  all_goals first | (exfalso; omega) | skip
  all_goals cases q
  all_goals simp [h1, h2, h3, h4, h5, h6, h7, h8, h9, h10, h11, h12]
theorem bt_get (s : ByteArray) (i : Nat) (h : i < s.data.toList.length) : bt s (i : Int) = (s.data.toList[i].toNat : Int) := by
  have h' : i < s.size := by simpa using h
  unfold bt
  rw [dif_pos (by simpa using h')]
  simp only [Int.toNat_natCast, Array.getElem_toList]
  rfl
theorem u8_ten (c : UInt8) : ((c.toNat : Int) = 10) ↔ (c == 10) = true := by
  rw [beq_iff_eq]
  constructor
  · intro h
    apply UInt8.toNat_inj.1
    show c.toNat = 10
    omega
  · intro h; subst h; rfl
theorem nline_ev (a : Int) (s : ByteArray) (b : Int) (l : List S25) (hs : s.size ≤ 140737488351232) : ∀ (d i : Nat), s.data.toList.length - i = d → i ≤ s.data.toList.length → Ev (fun k => arboristref54_node.l0 k (i : Int) a s b l) (if (s.data.toList.drop i).any (· == 10) then (3 : Int) else 0) := by
  have hz : s.size = s.data.toList.length := by simp
  intro d
  induction d with
  | zero =>
    intro i hd hi
    have : i = s.data.toList.length := by omega
    subst this
    rw [List.drop_length]
    refine Ev.step (f := fun _ => some 0) (fun k => ?_) (Ev.now _)
    simp only [arboristref54_node.l0]
    rw [if_neg (by omega)]
  | succ d ih =>
    intro i hd hi
    have hlt : i < s.data.toList.length := by omega
    rw [List.drop_eq_getElem_cons hlt]
    simp only [List.any_cons]
    by_cases hc : (s.data.toList[i] == 10) = true
    · have h3 : bt s (i : Int) = 10 := by rw [bt_get s i hlt]; exact (u8_ten _).2 hc
      simp only [hc, Bool.true_or, if_true]
      refine Ev.step (f := fun _ => some 3) (fun k => ?_) (Ev.now _)
      simp only [arboristref54_node.l0]
      rw [if_pos (by omega), if_pos (by omega), if_pos h3]
    · have h3 : ¬ bt s (i : Int) = 10 := by rw [bt_get s i hlt]; intro h; exact hc ((u8_ten _).1 h)
      simp only [Bool.eq_false_iff.2 hc, Bool.false_or]
      refine Ev.step (f := fun k => arboristref54_node.l0 k ((i + 1 : Nat) : Int) a s b l) (fun k => ?_) (ih (i + 1) (by omega) (by omega))
      simp only [arboristref54_node.l0]
      rw [if_pos (by omega), if_pos (by omega), if_neg h3, show wrap64 ((i : Int) + 1) = ((i + 1 : Nat) : Int) by unfold wrap64; omega]
def e3 (s : ByteArray) : Int := if lineB s then 3 else 0
def e2 (s : ByteArray) (b : Int) : Int := if b < 0 ∨ b > 200 then 2 else e3 s
theorem nj3_ev (c : Bool) (a : Int) (s : ByteArray) (b : Int) (l : List S25) (hs : s.size ≤ 140737488351232) : Ev (fun k => arboristref54_node.j3 k c a s b l) (if c then 2 else e3 s) := by
  cases c with
  | true =>
    refine Ev.step (f := fun _ => some 2) (fun k => ?_) (Ev.now _)
    simp only [arboristref54_node.j3, if_true]
  | false =>
    have h := nline_ev a s b l hs s.data.toList.length 0 (by omega) (by omega)
    rw [List.drop_zero] at h
    refine Ev.step (f := fun k => arboristref54_node.l0 k 0 a s b l) (fun k => ?_) h
    simp only [arboristref54_node.j3]
    rfl
theorem nj2_ev (c : Bool) (a : Int) (s : ByteArray) (b : Int) (l : List S25) (hs : s.size ≤ 140737488351232) : Ev (fun k => arboristref54_node.j2 k c a s b l) (if c then 9 else e2 s b) := by
  cases c with
  | true =>
    refine Ev.step (f := fun _ => some 9) (fun k => ?_) (Ev.now _)
    simp only [arboristref54_node.j2, if_true]
  | false =>
    unfold e2
    by_cases h1 : b < 0
    · refine Ev.step (f := fun k => arboristref54_node.j3 k true a s b l) (fun k => ?_) (by simpa [h1] using nj3_ev true a s b l hs)
      simp [arboristref54_node.j2, h1]
    · refine Ev.step (f := fun k => arboristref54_node.j3 k (decide (b > 200)) a s b l) (fun k => ?_) (by simpa [h1] using nj3_ev (decide (b > 200)) a s b l hs)
      simp [arboristref54_node.j2, h1]
theorem nj1_ev (c : Bool) (a : Int) (s : ByteArray) (b : Int) (l : List S25) (hs : s.size ≤ 140737488351232) : Ev (fun k => arboristref54_node.j1 k c a s b l) (if c then (if l.length = 1 then e2 s b else 9) else if a = 8 then e2 s b else if l.length > 0 then 9 else e2 s b) := by
  cases c with
  | true =>
    by_cases h1 : l.length = 1
    · refine Ev.step (f := fun k => arboristref54_node.j2 k false a s b l) (fun k => ?_) (by simpa [h1] using nj2_ev false a s b l hs)
      simp only [arboristref54_node.j1, if_true]; rw [if_pos (by omega)]
    · refine Ev.step (f := fun k => arboristref54_node.j2 k true a s b l) (fun k => ?_) (by simpa [h1] using nj2_ev true a s b l hs)
      simp only [arboristref54_node.j1, if_true]; rw [if_neg (by omega)]
  | false =>
    by_cases h1 : a = 8
    · refine Ev.step (f := fun k => arboristref54_node.j2 k false a s b l) (fun k => ?_) (by simpa [h1] using nj2_ev false a s b l hs)
      simp [arboristref54_node.j1, h1]
    · by_cases h2 : l.length > 0
      · refine Ev.step (f := fun k => arboristref54_node.j2 k true a s b l) (fun k => ?_) (by simpa [h1, h2] using nj2_ev true a s b l hs)
        simp only [arboristref54_node.j1]; rw [if_neg (by decide), if_neg h1, decide_eq_true (by omega)]
      · refine Ev.step (f := fun k => arboristref54_node.j2 k false a s b l) (fun k => ?_) (by simpa [h1, h2] using nj2_ev false a s b l hs)
        simp only [arboristref54_node.j1]; rw [if_neg (by decide), if_neg h1, decide_eq_false (by omega)]
theorem nj0_ev (c : Bool) (a : Int) (s : ByteArray) (b : Int) (l : List S25) (hs : s.size ≤ 140737488351232) : Ev (fun k => arboristref54_node.j0 k c a s b l) (if c then 11 else if a = 6 ∨ a = 7 then (if l.length = 1 then e2 s b else 9) else if a = 8 then e2 s b else if l.length > 0 then 9 else e2 s b) := by
  cases c with
  | true =>
    refine Ev.step (f := fun _ => some 11) (fun k => ?_) (Ev.now _)
    simp only [arboristref54_node.j0, if_true]
  | false =>
    by_cases h1 : a = 6
    · refine Ev.step (f := fun k => arboristref54_node.j1 k true a s b l) (fun k => ?_) (by simpa [h1] using nj1_ev true a s b l hs)
      simp [arboristref54_node.j0, h1]
    · refine Ev.step (f := fun k => arboristref54_node.j1 k (a == 7) a s b l) (fun k => ?_) ?_
      · simp [arboristref54_node.j0, h1]
      · have h := nj1_ev (a == 7) a s b l hs
        by_cases h2 : a = 7 <;> simpa [h1, h2] using h
theorem node_ev (a : Int) (s : ByteArray) (b : Int) (l : List S25) (hs : s.size ≤ 140737488351232) : Ev (fun k => arboristref54_node.f k a s b l) (nodeE a s b l.length) := by
  have h := fun c => nj0_ev c a s b l hs
  have key : ∀ c : Bool, (c = true ↔ (a < 1 ∨ a > 8 ∨ (¬ s.toList = [] ∧ a ≠ 2) ∨ (b ≠ 0 ∧ a ≠ 6))) → (if c then (11 : Int) else if a = 6 ∨ a = 7 then (if l.length = 1 then e2 s b else 9) else if a = 8 then e2 s b else if l.length > 0 then 9 else e2 s b) = nodeE a s b l.length := by
    intro c hc
    unfold nodeE
    cases c with
    | true => rw [if_pos rfl, if_pos (hc.1 rfl)]
    | false =>
      simp only [Bool.false_eq_true, if_false]
      have hn : ¬ (a < 1 ∨ a > 8 ∨ (¬ s.toList = [] ∧ a ≠ 2) ∨ (b ≠ 0 ∧ a ≠ 6)) := fun hh => by have := hc.2 hh; cases this
      rw [if_neg hn]
      simp only [e2, e3]
      generalize (if b < 0 ∨ b > 200 then (2 : Int) else if lineB s = true then 3 else 0) = E
      by_cases h6 : a = 6
      all_goals by_cases h7 : a = 7
      all_goals by_cases h8 : a = 8
      all_goals first | (exfalso; omega) | skip
      all_goals by_cases h9 : l.length = 1
      all_goals by_cases h10 : l.length = 0
      all_goals first | (exfalso; omega) | skip
      all_goals have h11 : l.length > 0 ∨ l.length = 0 := by omega
      all_goals rcases h11 with h11 | h11
      all_goals first | (exfalso; omega) | skip
      all_goals simp [h6, h7, h8, h9, h10, h11]
  unfold arboristref54_node.f
  by_cases h1 : a < 1
  · simp only [if_pos h1]; rw [← key true (by simp [h1])]; exact h true
  by_cases h2 : a > 8
  · simp only [if_neg h1, if_pos h2]; rw [← key true (by simp [h2])]; exact h true
  simp only [if_neg h1, if_neg h2]
  by_cases h3 : s.toList = []
  · simp only [if_pos h3]
    by_cases h5 : b = 0
    · simp only [if_pos h5]; rw [← key false (by simp [h3, h5]; omega)]; exact h false
    · simp only [if_neg h5]; rw [← key (a != 6) (by simp [h3, h5]; omega)]; exact h (a != 6)
  · simp only [if_neg h3]
    by_cases h4 : a = 2
    · simp only [if_pos h4]
      by_cases h5 : b = 0
      · simp only [if_pos h5]; rw [← key false (by simp [h4, h5])]; exact h false
      · simp only [if_neg h5]; rw [← key (a != 6) (by simp [h4, h5])]; exact h (a != 6)
    · simp only [if_neg h4]; rw [← key true (by simp [h3, h4])]; exact h true
mutual
def aT : S25 → Int
  | ⟨a, s, b, l⟩ => if nodeE a s b l.length = 0 then aL l else nodeE a s b l.length
def aL : List S25 → Int
  | [] => 0
  | y :: r => if aT y = 0 then aL r else aT y
end
theorem one_ev (a : Int) (s : ByteArray) (b : Int) (l : List S25) : Ev (fun k => prettydoc_one.f k a s b l) (nodeE a s b l.length) :=
  ⟨4, fun k hk => by obtain ⟨m, rfl⟩ : ∃ m, k = m + 4 := ⟨k - 4, by omega⟩; exact one_at m a s b l⟩
theorem pall_ev : ∀ (x : S25), W25 x → Ev (fun k => prettydoc_all.f k x.f0 x.f1 x.f2 x.f3) (aT x) := by
  intro x
  induction x using tree_ind with
  | h x ih =>
    intro hw
    have h := W25.out hw
    obtain ⟨a, s, b, l⟩ := x
    simp only at h ih ⊢
    simp only [aT]
    have loop : ∀ (d i : Nat), l.length - i = d → i ≤ l.length → Ev (fun k => prettydoc_all.l0 k l (l.length : Int) (i : Int)) (aL (l.drop i)) := by
      intro d
      induction d with
      | zero =>
        intro i hd hi
        have : i = l.length := by omega
        subst this
        rw [List.drop_length]
        simp only [aL]
        refine Ev.step (f := fun _ => some 0) (fun k => ?_) (Ev.now _)
        simp only [prettydoc_all.l0]
        rw [if_neg (by omega)]
      | succ d ihd =>
        intro i hd hi
        have hlt : i < l.length := by omega
        rw [List.drop_eq_getElem_cons hlt]
        simp only [aL]
        have h1 := ih l[i] (List.getElem_mem _) (h.2.2.2.2 _ (List.getElem_mem _))
        have h4 := ihd (i + 1) (by omega) (by omega)
        refine Ev.step (f := fun k => (prettydoc_all.f k l[i].f0 l[i].f1 l[i].f2 l[i].f3).bind fun t => if t = 0 then prettydoc_all.l0 k l (l.length : Int) (wrap64 ((i : Int) + 1)) else some t) (fun k => ?_) (Ev.bind h1 ?_)
        · simp only [prettydoc_all.l0]
          rw [if_pos (by omega), if_pos (by omega), if_pos (by omega), rd_at l i hlt]
        · rw [wrap_succ i l.length hlt h.2.2.2.1]
          by_cases h0 : aT l[i] = 0
          · simp only [if_pos h0]; exact h4
          · simp only [if_neg h0]; exact Ev.now _
    have h6 := loop l.length 0 (by omega) (by omega)
    rw [List.drop_zero] at h6
    refine Ev.step (f := fun k => (prettydoc_one.f k a s b l).bind fun t => if t = 0 then prettydoc_all.l0 k l (l.length : Int) 0 else some t) (fun k => ?_) (Ev.bind (one_ev a s b l) ?_)
    · simp only [prettydoc_all.f]
    · by_cases h0 : nodeE a s b l.length = 0
      · simp only [if_pos h0]; exact h6
      · simp only [if_neg h0]; exact Ev.now _
theorem rnodes_ev : ∀ (x : S25), W25 x → Ev (fun k => arboristref54_nodes.f k x.f0 x.f1 x.f2 x.f3) (aT x) := by
  intro x
  induction x using tree_ind with
  | h x ih =>
    intro hw
    have h := W25.out hw
    obtain ⟨a, s, b, l⟩ := x
    simp only at h ih ⊢
    simp only [aT]
    have stop : ∀ (e : Int), e ≠ 0 → ∀ i : Nat, Ev (fun k => arboristref54_nodes.l0 k e (i : Int) a s b l) e := by
      intro e he i
      refine Ev.step (f := fun _ => some e) (fun k => ?_) (Ev.now _)
      simp only [arboristref54_nodes.l0]
      rw [if_neg he]
      split <;> rfl
    have loop : ∀ (d i : Nat), l.length - i = d → i ≤ l.length → Ev (fun k => arboristref54_nodes.l0 k 0 (i : Int) a s b l) (aL (l.drop i)) := by
      intro d
      induction d with
      | zero =>
        intro i hd hi
        have : i = l.length := by omega
        subst this
        rw [List.drop_length]
        simp only [aL]
        refine Ev.step (f := fun _ => some 0) (fun k => ?_) (Ev.now _)
        simp only [arboristref54_nodes.l0]
        rw [if_neg (by omega)]
      | succ d ihd =>
        intro i hd hi
        have hlt : i < l.length := by omega
        rw [List.drop_eq_getElem_cons hlt]
        simp only [aL]
        have h1 := ih l[i] (List.getElem_mem _) (h.2.2.2.2 _ (List.getElem_mem _))
        have h4 := ihd (i + 1) (by omega) (by omega)
        refine Ev.step (f := fun k => (arboristref54_nodes.f k l[i].f0 l[i].f1 l[i].f2 l[i].f3).bind fun t => arboristref54_nodes.l0 k t (wrap64 ((i : Int) + 1)) a s b l) (fun k => ?_) (Ev.bind h1 ?_)
        · simp only [arboristref54_nodes.l0]
          rw [if_pos (by omega), if_pos True.intro, if_pos (by omega), rd_at l i hlt]
        · rw [wrap_succ i l.length hlt h.2.2.2.1]
          by_cases h0 : aT l[i] = 0
          · rw [if_pos h0, h0]; exact h4
          · rw [if_neg h0]; exact stop _ h0 _
    have h6 := loop l.length 0 (by omega) (by omega)
    rw [List.drop_zero] at h6
    refine Ev.step (f := fun k => (arboristref54_node.f k a s b l).bind fun t => arboristref54_nodes.l0 k t 0 a s b l) (fun k => ?_) (Ev.bind (node_ev a s b l h.2.1) ?_)
    · simp only [arboristref54_nodes.f]
    · by_cases h0 : nodeE a s b l.length = 0
      · rw [if_pos h0, h0]; exact h6
      · rw [if_neg h0]; exact stop _ h0 0
/-- What Right answers. -/
def RT (x : S25) : Int := if min (nodes x : Int) 8193 > 8192 then 4 else if dT x 100 = true then 6 else aT x
theorem pRight_ev (x : S25) (hw : W25 x) : Ev (fun k => prettydoc_Right.f k x.f0 x.f1 x.f2 x.f3) (RT x) := by
  unfold prettydoc_Right.f RT
  refine Ev.bind (pSize_ev x hw) ?_
  by_cases h1 : min (nodes x : Int) 8193 > 8192
  · simp only [if_pos h1]; exact Ev.now _
  · simp only [if_neg h1]
    refine Ev.bind (pdeep_ev x hw 100 (by omega)) ?_
    by_cases h2 : dT x 100 = true
    · simp only [if_pos h2]; exact Ev.now _
    · simp only [if_neg h2]
      exact Ev.bind (pall_ev x hw) (Ev.now _)
theorem rRight_ev (x : S25) (hw : W25 x) : Ev (fun k => arboristref54_Right.f k x.f0 x.f1 x.f2 x.f3) (RT x) := by
  unfold arboristref54_Right.f RT
  refine Ev.bind (rSize_ev x hw) ?_
  by_cases h1 : min (nodes x : Int) 8193 > 8192
  · simp only [if_pos h1]; exact Ev.now _
  · simp only [if_neg h1]
    refine Ev.bind (rdeep_ev x hw 100 (by omega)) ?_
    by_cases h2 : dT x 100 = true
    · simp only [if_pos h2]; exact Ev.now _
    · simp only [if_neg h2]
      exact Ev.bind (rnodes_ev x hw) (Ev.now _)
end Go.Proofs.Ytcmhffjcicolcaa.Pure
