/- Plain laws of documents as trees: weights, sizes, depths, groups; what the printed functions of rounds come to. -/
import Derived.Test.YtcmhffjcicolcaaPAx1
import Derived.Test.YtcmhffjcicolcaaPAx2
import Derived.Test.YtcmhffjcicolcaaPAx5
import Derived.Test.YtcmhffjcicolcaaPAx11
import Derived.Test.YtcmhffjcicolcaaPAx14
-- needs: arboristref54_Few prettydoc_Size prettydoc_deep prettydoc_Groups arboristref54_Size arboristref54_deep arboristref54_Groups
namespace Go.Proofs.Ytcmhffjcicolcaa.Pure
open Go.RowKit Go.Proofs.Ytcmhffjcicolcaa.PA Go.Proofs.YtcmhffjcicolcaaW.PrintWords Go.Proofs.YtcmhffjcicolcaaW.PrintLast Go.Proofs.YtcmhffjcicolcaaW.PrintMore

mutual
def nodes : S25 → Nat
  | ⟨_, _, _, l⟩ => 1 + nodesL l
def nodesL : List S25 → Nat
  | [] => 0
  | y :: r => nodes y + nodesL r
end
mutual
def texts : S25 → Nat
  | ⟨_, s, _, l⟩ => s.size + textsL l
def textsL : List S25 → Nat
  | [] => 0
  | y :: r => texts y + textsL r
end
mutual
def wT : S25 → Int → Int
  | ⟨_, s, _, l⟩, m => wL l m (1 + (s.size : Int) / 32)
def wL : List S25 → Int → Int → Int
  | [], _, n => n
  | y :: r, m, n => if n ≤ m then wL r m (n + wT y (m - n)) else n
end
mutual
def dT : S25 → Nat → Bool
  | _, 0 => true
  | ⟨_, _, _, l⟩, n + 1 => dL l n
def dL : List S25 → Nat → Bool
  | [], _ => false
  | y :: r, n => dT y n || dL r n
end
mutual
def gT : S25 → Nat
  | ⟨a, _, _, l⟩ => (if a = 7 then 1 else 0) + gL l
def gL : List S25 → Nat
  | [] => 0
  | y :: r => gT y + gL r
end
/-- Trees, by their kids. -/
theorem tree_ind {P : S25 → Prop} (h : ∀ x, (∀ y ∈ x.f3, P y) → P x) : ∀ x, P x := by
  have key : ∀ n : Nat, ∀ x, nodes x ≤ n → P x := by
    intro n
    induction n with
    | zero => intro x hx; obtain ⟨a, s, b, l⟩ := x; simp only [nodes] at hx; omega
    | succ n ih =>
      intro x hx
      refine h x (fun y hy => ih y ?_)
      obtain ⟨a, s, b, l⟩ := x
      simp only [nodes] at hx
      have : ∀ l : List S25, y ∈ l → nodes y ≤ nodesL l := by
        intro l
        induction l with
        | nil => intro h; exact absurd h (by simp)
        | cons z r ih2 =>
          intro h
          simp only [nodesL]
          rcases List.mem_cons.1 h with rfl | h
          · omega
          · have := ih2 h; omega
      have := this l hy
      omega
  exact fun x => key _ x (Nat.le_refl _)
theorem W25.out {x : S25} (h : W25 x) : (Lit.int .i64 x.f0).wf = true ∧ x.f1.size ≤ 140737488351232 ∧ (Lit.int .i64 x.f2).wf = true ∧ x.f3.length * 56 ≤ 140737488351232 ∧ ∀ y ∈ x.f3, W25 y := by
  cases h with
  | mk w0 w1 w2 w3 v3 => exact ⟨w0, w1, w2, w3, v3⟩
theorem eta25 (x : S25) : (⟨x.f0, x.f1, x.f2, x.f3⟩ : S25) = x := by cases x; rfl
theorem rd_at (l : List S25) (i : Nat) (h : i < l.length) : rd_T25 l (i : Int) = l[i] := by
  unfold rd_T25
  rw [Int.toNat_natCast, List.getD_eq_getElem?_getD, List.getElem?_eq_getElem h]
  rfl
theorem wrap_succ (i n : Nat) (h : i < n) (hn : n * 56 ≤ 140737488351232) : wrap64 ((i : Int) + 1) = ((i + 1 : Nat) : Int) := by
  unfold wrap64; omega

/-! ### weigh -/
theorem wL_ge (m : Int) : ∀ (l : List S25) (n : Int), (∀ y ∈ l, ∀ m', 1 ≤ wT y m') → n ≤ wL l m n := by
  intro l
  induction l with
  | nil => intro n _; simp [wL]
  | cons y r ih =>
    intro n hy
    simp only [wL]
    split
    · have h1 := hy y (by simp) (m - n)
      have h2 := ih (n + wT y (m - n)) (fun z hz => hy z (by simp [hz]))
      omega
    · omega
theorem wT_pos : ∀ (x : S25) (m : Int), 1 ≤ wT x m := by
  intro x
  induction x using tree_ind with
  | h x ih =>
    intro m
    obtain ⟨a, s, b, l⟩ := x
    simp only [wT]
    have := wL_ge m l (1 + (s.size : Int) / 32) (fun y hy m' => ih y hy m')
    omega
theorem wL_le (m : Int) : ∀ (l : List S25) (n : Int), (∀ y ∈ l, ∀ m', 0 ≤ m' → wT y m' ≤ m' + 8796093022208) → n ≤ m + 8796093022208 → wL l m n ≤ m + 8796093022208 := by
  intro l
  induction l with
  | nil => intro n _ hn; simpa [wL] using hn
  | cons y r ih =>
    intro n hy hn
    simp only [wL]
    split
    · have h1 := hy y (by simp) (m - n) (by omega)
      exact ih (n + wT y (m - n)) (fun z hz => hy z (by simp [hz])) (by omega)
    · exact hn
theorem wT_le : ∀ (x : S25), W25 x → ∀ (m : Int), 0 ≤ m → wT x m ≤ m + 8796093022208 := by
  intro x
  induction x using tree_ind with
  | h x ih =>
    intro hw m hm
    have h := W25.out hw
    obtain ⟨a, s, b, l⟩ := x
    simp only [wT]
    refine wL_le m l _ (fun y hy m' hm' => ih y hy (h.2.2.2.2 y hy) m' hm') ?_
    have := h.2.1
    simp only at this
    omega
theorem weigh_ev : ∀ (x : S25), W25 x → ∀ (m : Int), 0 ≤ m → m ≤ 1000000 → Ev (fun k => arboristref54_weigh.f k x.f0 x.f1 x.f2 x.f3 m) (wT x m) := by
  intro x
  induction x using tree_ind with
  | h x ih =>
    intro hw m hm hm2
    have h := W25.out hw
    obtain ⟨a, s, b, l⟩ := x
    simp only at h ih ⊢
    have loop : ∀ (d i : Nat), l.length - i = d → i ≤ l.length → ∀ n : Int, 1 ≤ n → n ≤ m + 8796093022208 → Ev (fun k => arboristref54_weigh.l0 k m n (i : Int) a s b l) (wL (l.drop i) m n) := by
      intro d
      induction d with
      | zero =>
        intro i hd hi n hn hn2
        have : i = l.length := by omega
        subst this
        rw [List.drop_length]
        refine Ev.step (f := fun _ => some n) (fun k => ?_) (Ev.now n)
        simp only [arboristref54_weigh.l0]
        rw [if_neg (by omega)]
      | succ d ihd =>
        intro i hd hi n hn hn2
        have hlt : i < l.length := by omega
        rw [List.drop_eq_getElem_cons hlt]
        simp only [wL]
        by_cases hnm : n ≤ m
        · rw [if_pos hnm]
          have h1 := ih l[i] (List.getElem_mem _) (h.2.2.2.2 _ (List.getElem_mem _)) (m - n) (by omega) (by omega)
          have h2 := wT_pos l[i] (m - n)
          have h3 := wT_le l[i] (h.2.2.2.2 _ (List.getElem_mem _)) (m - n) (by omega)
          have h4 := ihd (i + 1) (by omega) (by omega) (n + wT l[i] (m - n)) (by omega) (by omega)
          refine Ev.step (f := fun k => (arboristref54_weigh.f k l[i].f0 l[i].f1 l[i].f2 l[i].f3 (m - n)).bind fun t => arboristref54_weigh.l0 k m (wrap64 (n + t)) (wrap64 ((i : Int) + 1)) a s b l) (fun k => ?_) (Ev.bind h1 ?_)
          · simp only [arboristref54_weigh.l0]
            rw [if_pos (by omega), if_pos hnm, if_pos (by omega), rd_at l i hlt, show wrap64 (m - n) = m - n by unfold wrap64; omega]
          · rw [wrap_succ i l.length hlt h.2.2.2.1, show wrap64 (n + wT l[i] (m - n)) = n + wT l[i] (m - n) by unfold wrap64; omega]
            exact h4
        · rw [if_neg hnm]
          refine Ev.step (f := fun _ => some n) (fun k => ?_) (Ev.now n)
          simp only [arboristref54_weigh.l0]
          rw [if_pos (by omega), if_neg hnm]
    have h5 : wrap64 (1 + wrap64 ((s.size : Int) / 32)) = 1 + (s.size : Int) / 32 := by
      have := h.2.1
      unfold wrap64; omega
    have h6 := loop l.length 0 (by omega) (by omega) (1 + (s.size : Int) / 32) (by have := h.2.1; omega) (by have := h.2.1; omega)
    rw [List.drop_zero] at h6
    simp only [wT]
    refine Ev.step (f := fun k => arboristref54_weigh.l0 k m (1 + (s.size : Int) / 32) 0 a s b l) (fun k => ?_) h6
    simp only [arboristref54_weigh.f]
    rw [h5]
theorem few_ev (x : S25) (hw : W25 x) (m : Int) (hm : 0 ≤ m) (hm2 : m ≤ 1000000) : Ev (fun k => arboristref54_Few.f k x.f0 x.f1 x.f2 x.f3 m) (decide (wT x m ≤ m)) := by
  unfold arboristref54_Few.f
  exact Ev.bind (weigh_ev x hw m hm hm2) (Ev.now _)
/-- What is light has few nodes and few letters. -/
theorem light_L (m : Int) : ∀ (l : List S25) (n : Int), (∀ y ∈ l, ∀ m', wT y m' ≤ m' → (nodes y : Int) ≤ wT y m' ∧ (texts y : Int) ≤ 32 * wT y m') → wL l m n ≤ m →
    n + nodesL l ≤ wL l m n ∧ 32 * n + textsL l ≤ 32 * wL l m n := by
  intro l
  induction l with
  | nil => intro n _ _; simp [wL, nodesL, textsL]
  | cons y r ih =>
    intro n hy hn
    simp only [wL] at hn ⊢
    simp only [nodesL, textsL]
    split at hn
    · rename_i h0
      rw [if_pos h0]
      have h1 := ih (n + wT y (m - n)) (fun z hz => hy z (by simp [hz])) hn
      have h2 := hy y (by simp) (m - n) (by omega)
      omega
    · rename_i h0; omega
theorem light : ∀ (x : S25) (m : Int), wT x m ≤ m → (nodes x : Int) ≤ wT x m ∧ (texts x : Int) ≤ 32 * wT x m := by
  intro x
  induction x using tree_ind with
  | h x ih =>
    intro m hm
    obtain ⟨a, s, b, l⟩ := x
    simp only [wT] at hm ⊢
    have := light_L m l _ (fun y hy m' => ih y hy m') hm
    simp only [nodes, texts]
    omega

/-! ### Size -/
theorem psize_ev : ∀ (x : S25), W25 x → ∀ n : Int, 0 ≤ n → n ≤ 8192 → Ev (fun k => prettydoc_Size_1.f k x.f3 n) (min (n + nodes x) 8193) := by
  intro x
  induction x using tree_ind with
  | h x ih =>
    intro hw n hn hn2
    have h := W25.out hw
    obtain ⟨a, s, b, l⟩ := x
    simp only at h ih ⊢
    have loop : ∀ (d i : Nat), l.length - i = d → i ≤ l.length → ∀ n : Int, 1 ≤ n → n ≤ 8193 → Ev (fun k => prettydoc_Size_1.l0 k l (i : Int) n) (min (n + nodesL (l.drop i)) 8193) := by
      intro d
      induction d with
      | zero =>
        intro i hd hi n hn hn2
        have : i = l.length := by omega
        subst this
        rw [List.drop_length]
        simp only [nodesL]
        refine Ev.step (f := fun _ => some n) (fun k => ?_) (by rw [show min (n + ((0 : Nat) : Int)) 8193 = n by omega]; exact Ev.now n)
        simp only [prettydoc_Size_1.l0]
        rw [if_neg (by omega)]
      | succ d ihd =>
        intro i hd hi n hn hn2
        have hlt : i < l.length := by omega
        rw [List.drop_eq_getElem_cons hlt]
        simp only [nodesL]
        by_cases hnm : n > 8192
        · refine Ev.step (f := fun _ => some n) (fun k => ?_) (by rw [show min (n + ((nodes l[i] + nodesL (l.drop (i + 1)) : Nat) : Int)) 8193 = n by omega]; exact Ev.now n)
          simp only [prettydoc_Size_1.l0]
          rw [if_pos (by omega), if_pos hnm]
        · have h1 := ih l[i] (List.getElem_mem _) (h.2.2.2.2 _ (List.getElem_mem _)) n (by omega) (by omega)
          have h4 := ihd (i + 1) (by omega) (by omega) (min (n + nodes l[i]) 8193) (by omega) (by omega)
          refine Ev.step (f := fun k => (prettydoc_Size_1.f k l[i].f3 n).bind fun m => prettydoc_Size_1.l0 k l (wrap64 ((i : Int) + 1)) m) (fun k => ?_) (Ev.bind h1 ?_)
          · simp only [prettydoc_Size_1.l0]
            rw [if_pos (by omega), if_neg hnm, rd_at l i hlt]
          · rw [wrap_succ i l.length hlt h.2.2.2.1]
            rw [show min (n + ((nodes l[i] + nodesL (l.drop (i + 1)) : Nat) : Int)) 8193 = min (min (n + nodes l[i]) 8193 + nodesL (l.drop (i + 1))) 8193 by omega]
            exact h4
    have h6 := loop l.length 0 (by omega) (by omega) (n + 1) (by omega) (by omega)
    rw [List.drop_zero] at h6
    simp only [nodes]
    rw [show min (n + ((1 + nodesL l : Nat) : Int)) 8193 = min (n + 1 + nodesL l) 8193 by omega]
    refine Ev.step (f := fun k => prettydoc_Size_1.l0 k l 0 (n + 1)) (fun k => ?_) h6
    simp only [prettydoc_Size_1.f]
    rw [show wrap64 (n + 1) = n + 1 by unfold wrap64; omega]
theorem nodes_pos (x : S25) : 1 ≤ nodes x := by
  obtain ⟨a, s, b, l⟩ := x
  simp only [nodes]; omega
theorem pSize_ev (x : S25) (hw : W25 x) : Ev (fun k => prettydoc_Size.f k x.f0 x.f1 x.f2 x.f3) (min (nodes x : Int) 8193) := by
  unfold prettydoc_Size.f
  refine Ev.bind (psize_ev x hw 0 (by omega) (by omega)) ?_
  rw [show min (0 + (nodes x : Int)) 8193 = min (nodes x : Int) 8193 by omega]
  have : mn (min (nodes x : Int) 8193) 8193 = min (nodes x : Int) 8193 := by unfold mn; split <;> omega
  rw [this]
  exact Ev.now _
theorem rsize_ev : ∀ (x : S25), W25 x → ∀ m : Int, 0 ≤ m → m ≤ 8192 → Ev (fun k => arboristref54_size.f k x.f0 x.f1 x.f2 x.f3 m) (min (nodes x : Int) (m + 1)) := by
  intro x
  induction x using tree_ind with
  | h x ih =>
    intro hw m hm hm2
    have h := W25.out hw
    obtain ⟨a, s, b, l⟩ := x
    simp only at h ih ⊢
    have loop : ∀ (d i : Nat), l.length - i = d → i ≤ l.length → ∀ n : Int, 1 ≤ n → n ≤ m + 1 → Ev (fun k => arboristref54_size.l0 k m n (i : Int) a s b l) (min (n + nodesL (l.drop i)) (m + 1)) := by
      intro d
      induction d with
      | zero =>
        intro i hd hi n hn hn2
        have : i = l.length := by omega
        subst this
        rw [List.drop_length]
        simp only [nodesL]
        refine Ev.step (f := fun _ => some n) (fun k => ?_) (by rw [show min (n + ((0 : Nat) : Int)) (m + 1) = n by omega]; exact Ev.now n)
        simp only [arboristref54_size.l0]
        rw [if_neg (by omega)]
      | succ d ihd =>
        intro i hd hi n hn hn2
        have hlt : i < l.length := by omega
        rw [List.drop_eq_getElem_cons hlt]
        simp only [nodesL]
        by_cases hnm : n ≤ m
        · have h1 := ih l[i] (List.getElem_mem _) (h.2.2.2.2 _ (List.getElem_mem _)) (m - n) (by omega) (by omega)
          have h4 := ihd (i + 1) (by omega) (by omega) (n + min (nodes l[i] : Int) (m - n + 1)) (by omega) (by omega)
          refine Ev.step (f := fun k => (arboristref54_size.f k l[i].f0 l[i].f1 l[i].f2 l[i].f3 (m - n)).bind fun t => arboristref54_size.l0 k m (wrap64 (n + t)) (wrap64 ((i : Int) + 1)) a s b l) (fun k => ?_) (Ev.bind h1 ?_)
          · simp only [arboristref54_size.l0]
            rw [if_pos (by omega), if_pos hnm, if_pos (by omega), rd_at l i hlt, show wrap64 (m - n) = m - n by unfold wrap64; omega]
          · rw [wrap_succ i l.length hlt h.2.2.2.1, show wrap64 (n + min (nodes l[i] : Int) (m - n + 1)) = n + min (nodes l[i] : Int) (m - n + 1) by unfold wrap64; omega]
            rw [show min (n + ((nodes l[i] + nodesL (l.drop (i + 1)) : Nat) : Int)) (m + 1) = min (n + min (nodes l[i] : Int) (m - n + 1) + nodesL (l.drop (i + 1))) (m + 1) by omega]
            exact h4
        · refine Ev.step (f := fun _ => some n) (fun k => ?_) (by rw [show min (n + ((nodes l[i] + nodesL (l.drop (i + 1)) : Nat) : Int)) (m + 1) = n by omega]; exact Ev.now n)
          simp only [arboristref54_size.l0]
          rw [if_pos (by omega), if_neg hnm]
    have h6 := loop l.length 0 (by omega) (by omega) 1 (by omega) (by omega)
    rw [List.drop_zero] at h6
    simp only [nodes]
    rw [show min ((1 + nodesL l : Nat) : Int) (m + 1) = min (1 + (nodesL l : Int)) (m + 1) by omega]
    refine Ev.step (f := fun k => arboristref54_size.l0 k m 1 0 a s b l) (fun k => ?_) h6
    simp only [arboristref54_size.f]
theorem rSize_ev (x : S25) (hw : W25 x) : Ev (fun k => arboristref54_Size.f k x.f0 x.f1 x.f2 x.f3) (min (nodes x : Int) 8193) := by
  unfold arboristref54_Size.f
  exact Ev.bind (rsize_ev x hw 8192 (by omega) (by omega)) (Ev.now _)

/-! ### deep -/
theorem pdeep_ev : ∀ (x : S25), W25 x → ∀ n : Nat, n ≤ 1000 → Ev (fun k => prettydoc_deep.f k x.f0 x.f1 x.f2 x.f3 (n : Int)) (dT x n) := by
  intro x
  induction x using tree_ind with
  | h x ih =>
    intro hw n hn
    have h := W25.out hw
    obtain ⟨a, s, b, l⟩ := x
    simp only at h ih ⊢
    cases n with
    | zero =>
      simp only [dT]
      refine Ev.step (f := fun _ => some true) (fun k => ?_) (Ev.now _)
      simp only [prettydoc_deep.f]
      rw [if_pos (by omega)]
    | succ n =>
      have loop : ∀ (d i : Nat), l.length - i = d → i ≤ l.length → Ev (fun k => prettydoc_deep.l0 k ((n + 1 : Nat) : Int) l (l.length : Int) (i : Int)) (dL (l.drop i) n) := by
        intro d
        induction d with
        | zero =>
          intro i hd hi
          have : i = l.length := by omega
          subst this
          rw [List.drop_length]
          simp only [dL]
          refine Ev.step (f := fun _ => some false) (fun k => ?_) (Ev.now _)
          simp only [prettydoc_deep.l0]
          rw [if_neg (by omega)]
        | succ d ihd =>
          intro i hd hi
          have hlt : i < l.length := by omega
          rw [List.drop_eq_getElem_cons hlt]
          simp only [dL]
          have h1 := ih l[i] (List.getElem_mem _) (h.2.2.2.2 _ (List.getElem_mem _)) n (by omega)
          have h4 := ihd (i + 1) (by omega) (by omega)
          refine Ev.step (f := fun k => (prettydoc_deep.f k l[i].f0 l[i].f1 l[i].f2 l[i].f3 (n : Int)).bind fun t => if t = true then some true else prettydoc_deep.l0 k ((n + 1 : Nat) : Int) l (l.length : Int) (wrap64 ((i : Int) + 1))) (fun k => ?_) (Ev.bind h1 ?_)
          · simp only [prettydoc_deep.l0]
            rw [if_pos (by omega), if_pos (by omega), if_pos (by omega), rd_at l i hlt, show wrap64 (((n + 1 : Nat) : Int) - 1) = (n : Int) by unfold wrap64; omega]
          · rw [wrap_succ i l.length hlt h.2.2.2.1]
            cases hd : dT l[i] n with
            | true => simp only [if_true, Bool.true_or]; exact Ev.now _
            | false => simp only [Bool.false_or]; simpa using h4
      have h6 := loop l.length 0 (by omega) (by omega)
      rw [List.drop_zero] at h6
      simp only [dT]
      refine Ev.step (f := fun k => prettydoc_deep.l0 k ((n + 1 : Nat) : Int) l (l.length : Int) 0) (fun k => ?_) h6
      simp only [prettydoc_deep.f]
      rw [if_neg (by omega)]
theorem rdeep_ev : ∀ (x : S25), W25 x → ∀ n : Nat, n ≤ 1000 → Ev (fun k => arboristref54_deep.f k x.f0 x.f1 x.f2 x.f3 (n : Int)) (dT x n) := by
  intro x
  induction x using tree_ind with
  | h x ih =>
    intro hw n hn
    have h := W25.out hw
    obtain ⟨a, s, b, l⟩ := x
    simp only at h ih ⊢
    cases n with
    | zero =>
      simp only [dT]
      refine Ev.step (f := fun _ => some true) (fun k => ?_) (Ev.now _)
      simp only [arboristref54_deep.f]
      rw [if_pos (by omega)]
    | succ n =>
      have loop : ∀ (d i : Nat), l.length - i = d → i ≤ l.length → Ev (fun k => arboristref54_deep.l0 k ((n + 1 : Nat) : Int) (i : Int) a s b l) (dL (l.drop i) n) := by
        intro d
        induction d with
        | zero =>
          intro i hd hi
          have : i = l.length := by omega
          subst this
          rw [List.drop_length]
          simp only [dL]
          refine Ev.step (f := fun _ => some false) (fun k => ?_) (Ev.now _)
          simp only [arboristref54_deep.l0]
          rw [if_neg (by omega)]
        | succ d ihd =>
          intro i hd hi
          have hlt : i < l.length := by omega
          rw [List.drop_eq_getElem_cons hlt]
          simp only [dL]
          have h1 := ih l[i] (List.getElem_mem _) (h.2.2.2.2 _ (List.getElem_mem _)) n (by omega)
          have h4 := ihd (i + 1) (by omega) (by omega)
          refine Ev.step (f := fun k => (arboristref54_deep.f k l[i].f0 l[i].f1 l[i].f2 l[i].f3 (n : Int)).bind fun t => if t = true then some true else arboristref54_deep.l0 k ((n + 1 : Nat) : Int) (wrap64 ((i : Int) + 1)) a s b l) (fun k => ?_) (Ev.bind h1 ?_)
          · simp only [arboristref54_deep.l0]
            rw [if_pos (by omega), if_pos (by omega), rd_at l i hlt, show wrap64 (((n + 1 : Nat) : Int) - 1) = (n : Int) by unfold wrap64; omega]
          · rw [wrap_succ i l.length hlt h.2.2.2.1]
            cases hd : dT l[i] n with
            | true => simp only [if_true, Bool.true_or]; exact Ev.now _
            | false => simp only [Bool.false_or]; simpa using h4
      have h6 := loop l.length 0 (by omega) (by omega)
      rw [List.drop_zero] at h6
      simp only [dT]
      refine Ev.step (f := fun k => arboristref54_deep.l0 k ((n + 1 : Nat) : Int) 0 a s b l) (fun k => ?_) h6
      simp only [arboristref54_deep.f]
      rw [if_neg (by omega)]

/-! ### Groups -/
theorem gT_le : ∀ x : S25, gT x ≤ nodes x := by
  intro x
  induction x using tree_ind with
  | h x ih =>
    obtain ⟨a, s, b, l⟩ := x
    simp only [gT, nodes]
    have : ∀ l' : List S25, (∀ y ∈ l', gT y ≤ nodes y) → gL l' ≤ nodesL l' := by
      intro l'
      induction l' with
      | nil => intro _; simp [gL, nodesL]
      | cons y r ih2 =>
        intro hy
        simp only [gL, nodesL]
        have h1 := hy y (by simp)
        have h2 := ih2 (fun z hz => hy z (by simp [hz]))
        omega
    have := this l (fun y hy => ih y hy)
    split <;> omega
theorem gL_split (l : List S25) (i : Nat) (h : i < l.length) : gL (l.take (i + 1)) = gL (l.take i) + gT l[i] := by
  rw [List.take_succ_eq_append_getElem h]
  generalize l.take i = p
  induction p with
  | nil => simp [gL]
  | cons y r ih => simp only [List.cons_append, gL]; omega
theorem gL_take_le (l : List S25) : ∀ i, gL (l.take i) ≤ gL l := by
  induction l with
  | nil => intro i; simp [gL]
  | cons y r ih =>
    intro i
    cases i with
    | zero => simp [gL]
    | succ i => simp only [List.take_succ_cons, gL]; have := ih i; omega
theorem gT_mem {y : S25} : ∀ {l : List S25}, y ∈ l → gT y ≤ gL l := by
  intro l
  induction l with
  | nil => intro h; exact absurd h (by simp)
  | cons z r ih =>
    intro h
    simp only [gL]
    rcases List.mem_cons.1 h with rfl | h
    · omega
    · have := ih h; omega
theorem pgroups_ev : ∀ (x : S25), W25 x → gT x ≤ 1000000 → Ev (fun k => prettydoc_Groups.f k x.f0 x.f1 x.f2 x.f3) (gT x : Int) := by
  intro x
  induction x using tree_ind with
  | h x ih =>
    intro hw hg
    have h := W25.out hw
    obtain ⟨a, s, b, l⟩ := x
    simp only at h ih ⊢
    simp only [gT] at hg ⊢
    have loop : ∀ (c : Nat), c ≤ 1 → c + gL l ≤ 1000000 → ∀ (d i : Nat), l.length - i = d → i ≤ l.length → Ev (fun k => prettydoc_Groups.l0 k ((c + gL (l.take i) : Nat) : Int) l (l.length : Int) (i : Int)) ((c + gL l : Nat) : Int) := by
      intro c hc hcl d
      induction d with
      | zero =>
        intro i hd hi
        have : i = l.length := by omega
        subst this
        rw [List.take_length]
        refine Ev.step (f := fun _ => some _) (fun k => ?_) (Ev.now _)
        simp only [prettydoc_Groups.l0]
        rw [if_neg (by omega)]
      | succ d ihd =>
        intro i hd hi
        have hlt : i < l.length := by omega
        have hm := gT_mem (List.getElem_mem hlt)
        have h1 := ih l[i] (List.getElem_mem _) (h.2.2.2.2 _ (List.getElem_mem _)) (by omega)
        have h4 := ihd (i + 1) (by omega) (by omega)
        have h5 := gL_take_le l i
        rw [gL_split l i hlt] at h4
        refine Ev.step (f := fun k => (prettydoc_Groups.f k l[i].f0 l[i].f1 l[i].f2 l[i].f3).bind fun t => prettydoc_Groups.l0 k (wrap64 (((c + gL (l.take i) : Nat) : Int) + t)) l (l.length : Int) (wrap64 ((i : Int) + 1))) (fun k => ?_) (Ev.bind h1 ?_)
        · simp only [prettydoc_Groups.l0]
          rw [if_pos (by omega), if_pos (by omega), if_pos (by omega), rd_at l i hlt]
        · rw [wrap_succ i l.length hlt h.2.2.2.1, show wrap64 (((c + gL (l.take i) : Nat) : Int) + (gT l[i] : Int)) = ((c + (gL (l.take i) + gT l[i]) : Nat) : Int) by unfold wrap64; omega]
          exact h4
    by_cases h7 : a = 7
    · rw [if_pos h7] at hg ⊢
      have h6 := loop 1 (by omega) (by omega) l.length 0 (by omega) (by omega)
      refine Ev.step (f := fun k => prettydoc_Groups.j0 k 1 a s b l) (fun k => ?_) (Ev.step (f := fun k => prettydoc_Groups.l0 k 1 l (l.length : Int) 0) (fun k => ?_) ?_)
      · simp only [prettydoc_Groups.f]; rw [if_pos h7]
      · simp only [prettydoc_Groups.j0]
      · simpa [gL] using h6
    · rw [if_neg h7] at hg ⊢
      have h6 := loop 0 (by omega) (by omega) l.length 0 (by omega) (by omega)
      refine Ev.step (f := fun k => prettydoc_Groups.j0 k 0 a s b l) (fun k => ?_) (Ev.step (f := fun k => prettydoc_Groups.l0 k 0 l (l.length : Int) 0) (fun k => ?_) ?_)
      · simp only [prettydoc_Groups.f]; rw [if_neg h7]
      · simp only [prettydoc_Groups.j0]
      · simpa [gL] using h6
theorem rgroups_ev : ∀ (x : S25), W25 x → gT x ≤ 1000000 → Ev (fun k => arboristref54_Groups.f k x.f0 x.f1 x.f2 x.f3) (gT x : Int) := by
  intro x
  induction x using tree_ind with
  | h x ih =>
    intro hw hg
    have h := W25.out hw
    obtain ⟨a, s, b, l⟩ := x
    simp only at h ih ⊢
    simp only [gT] at hg ⊢
    have loop : ∀ (c : Nat), c ≤ 1 → c + gL l ≤ 1000000 → ∀ (d i : Nat), l.length - i = d → i ≤ l.length → Ev (fun k => arboristref54_Groups.l0 k ((c + gL (l.take i) : Nat) : Int) (i : Int) a s b l) ((c + gL l : Nat) : Int) := by
      intro c hc hcl d
      induction d with
      | zero =>
        intro i hd hi
        have : i = l.length := by omega
        subst this
        rw [List.take_length]
        refine Ev.step (f := fun _ => some _) (fun k => ?_) (Ev.now _)
        simp only [arboristref54_Groups.l0]
        rw [if_neg (by omega)]
      | succ d ihd =>
        intro i hd hi
        have hlt : i < l.length := by omega
        have hm := gT_mem (List.getElem_mem hlt)
        have h1 := ih l[i] (List.getElem_mem _) (h.2.2.2.2 _ (List.getElem_mem _)) (by omega)
        have h4 := ihd (i + 1) (by omega) (by omega)
        have h5 := gL_take_le l i
        rw [gL_split l i hlt] at h4
        refine Ev.step (f := fun k => (arboristref54_Groups.f k l[i].f0 l[i].f1 l[i].f2 l[i].f3).bind fun t => arboristref54_Groups.l0 k (wrap64 (((c + gL (l.take i) : Nat) : Int) + t)) (wrap64 ((i : Int) + 1)) a s b l) (fun k => ?_) (Ev.bind h1 ?_)
        · simp only [arboristref54_Groups.l0]
          rw [if_pos (by omega), if_pos (by omega), rd_at l i hlt]
        · rw [wrap_succ i l.length hlt h.2.2.2.1, show wrap64 (((c + gL (l.take i) : Nat) : Int) + (gT l[i] : Int)) = ((c + (gL (l.take i) + gT l[i]) : Nat) : Int) by unfold wrap64; omega]
          exact h4
    by_cases h7 : a = 7
    · rw [if_pos h7] at hg ⊢
      have h6 := loop 1 (by omega) (by omega) l.length 0 (by omega) (by omega)
      refine Ev.step (f := fun k => arboristref54_Groups.j0 k 1 a s b l) (fun k => ?_) (Ev.step (f := fun k => arboristref54_Groups.l0 k 1 0 a s b l) (fun k => ?_) ?_)
      · simp only [arboristref54_Groups.f]; rw [if_pos h7]
      · simp only [arboristref54_Groups.j0]
      · simpa [gL] using h6
    · rw [if_neg h7] at hg ⊢
      have h6 := loop 0 (by omega) (by omega) l.length 0 (by omega) (by omega)
      refine Ev.step (f := fun k => arboristref54_Groups.j0 k 0 a s b l) (fun k => ?_) (Ev.step (f := fun k => arboristref54_Groups.l0 k 0 0 a s b l) (fun k => ?_) ?_)
      · simp only [arboristref54_Groups.f]; rw [if_neg h7]
      · simp only [arboristref54_Groups.j0]
      · simpa [gL] using h6

/-! ### a single node -/
def lineB (s : ByteArray) : Bool := s.data.toList.any (· == 10)
def nodeE (a : Int) (s : ByteArray) (b : Int) (n : Nat) : Int :=
  if a < 1 ∨ a > 8 ∨ (¬ s.toList = [] ∧ a ≠ 2) ∨ (b ≠ 0 ∧ a ≠ 6) then 11
  else if ((a = 6 ∨ a = 7) ∧ n ≠ 1) ∨ (a ≠ 6 ∧ a ≠ 7 ∧ a ≠ 8 ∧ n ≠ 0) then 9
  else if b < 0 ∨ b > 200 then 2
  else if lineB s then 3 else 0
theorem indexByte_any (l : List UInt8) : (0 ≤ Lib.indexByte l 10) ↔ l.any (· == 10) = true := by
  induction l with
  | nil => simp [Lib.indexByte]
  | cons x r ih =>
    simp only [Lib.indexByte, List.any_cons]
    have hg := Lib.indexByte_ge r 10
    by_cases hx : x == 10
    · simp [hx]
    · simp only [hx, Bool.false_or]
      by_cases h1 : Lib.indexByte r 10 == -1
      · simp only [h1]
        have h2 : Lib.indexByte r 10 = -1 := by simpa using h1
        rw [h2] at ih
        constructor
        · intro h; simp at h
        · intro h; have := ih.2 h; omega
      · simp only [h1]
        have h2 : ¬ Lib.indexByte r 10 = -1 := by simpa using h1
        constructor
        · intro h; exact ih.1 (by simp at h; omega)
        · intro h; have := ih.2 h; simp; omega
end Go.Proofs.Ytcmhffjcicolcaa.Pure
