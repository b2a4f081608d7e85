-- WRITTEN BY pp.py out of the translation; Lean checks it.
import Derived.Test.YtcmhffjcicolcaaPAx0
namespace Go.Proofs.Ytcmhffjcicolcaa.PA
open Go.RowKit Go.Proofs.YtcmhffjcicolcaaW.PrintWords Go.Proofs.YtcmhffjcicolcaaW.PrintLast Go.Proofs.YtcmhffjcicolcaaW.PrintMore
attribute [local go_sem] max2_int min2_int max_two min_two max_three min_three max_four min_four   -- for this text's walks alone
set_option linter.unusedVariables false
set_option linter.unusedSimpArgs false

/-! ### arboristref54_weigh: function 29 -/
mutual
def arboristref54_weigh.l0 : Nat → Int → Int → Int → Int → ByteArray → Int → List (S25) → Option (Int)
 | 0, _, _, _, _, _, _, _ => none
 | k + 1, x1, x5, x6, x102000, x102001, x102002, x102003 => if x6 < (x102003.length : Int) then (if x5 ≤ x1 then (if 0 ≤ x6 then ((arboristref54_weigh.f k ((rd_T25 x102003 x6).f0) ((rd_T25 x102003 x6).f1) ((rd_T25 x102003 x6).f2) ((rd_T25 x102003 x6).f3) (wrap64 (x1 - x5))).bind fun t103 => (arboristref54_weigh.l0 k x1 (wrap64 (x5 + t103)) (wrap64 (x6 + 1)) x102000 x102001 x102002 x102003)) else (none)) else (some x5)) else (some x5)
def arboristref54_weigh.f : Nat → Int → ByteArray → Int → List (S25) → Int → Option (Int)
 | 0, _, _, _, _, _ => none
 | k + 1, a0_0, a0_1, a0_2, l0_3, a1 => arboristref54_weigh.l0 k a1 (wrap64 (1 + (wrap64 ((a0_1.size : Int) / 32)))) 0 a0_0 a0_1 a0_2 l0_3
end
theorem arboristref54_weigh.mono_l : ∀ k, (∀ y0 y1 y2 y3 y4, LeO (arboristref54_weigh.f k y0 y1 y2 y3 y4) (arboristref54_weigh.f (k + 1) y0 y1 y2 y3 y4)) ∧ (∀ y0 y1 y2 y3 y4 y5 y6, LeO (arboristref54_weigh.l0 k y0 y1 y2 y3 y4 y5 y6) (arboristref54_weigh.l0 (k + 1) y0 y1 y2 y3 y4 y5 y6))
 | 0 => ⟨fun _ _ _ _ _ r h => by simp [arboristref54_weigh.f] at h, fun _ _ _ _ _ _ _ r h => by simp [arboristref54_weigh.l0] at h⟩
 | k + 1 => by
  obtain ⟨ih0, ih1⟩ := arboristref54_weigh.mono_l k
  refine ⟨?_, ?_⟩
  ·intro y0 y1 y2 y3 y4
   unfold arboristref54_weigh.f
   repeat' first
   | (with_reducible exact ih0 _ _ _ _ _)
   | (with_reducible exact ih1 _ _ _ _ _ _ _)
   | (with_reducible exact LeO.refl _)
   | (with_reducible exact LeO.none _)
   | (with_reducible refine LeO.ite ?_ ?_)
   | (with_reducible refine LeO.bind ?_ (fun _ => ?_))
   | exact ih0 _ _ _ _ _
   | exact ih1 _ _ _ _ _ _ _
   | exact LeO.none _
   | refine LeO.ite ?_ ?_
   | refine LeO.bind ?_ (fun _ => ?_)
  ·intro y0 y1 y2 y3 y4 y5 y6
   unfold arboristref54_weigh.l0
   repeat' first
   | (with_reducible exact ih0 _ _ _ _ _)
   | (with_reducible exact ih1 _ _ _ _ _ _ _)
   | (with_reducible exact LeO.refl _)
   | (with_reducible exact LeO.none _)
   | (with_reducible refine LeO.ite ?_ ?_)
   | (with_reducible refine LeO.bind ?_ (fun _ => ?_))
   | exact ih0 _ _ _ _ _
   | exact ih1 _ _ _ _ _ _ _
   | exact LeO.none _
   | refine LeO.ite ?_ ?_
   | refine LeO.bind ?_ (fun _ => ?_)
theorem arboristref54_weigh.mono : ∀ a0 a1 a2 a3 a4 k, LeO (arboristref54_weigh.f k a0 a1 a2 a3 a4) (arboristref54_weigh.f (k + 1) a0 a1 a2 a3 a4) := by
 intro a0 a1 a2 a3 a4 k
 obtain ⟨ih0, ih1⟩ := arboristref54_weigh.mono_l k
 exact ih0 a0 a1 a2 a3 a4
set_option maxHeartbeats 8000000 in
set_option maxRecDepth 100000 in
theorem arboristref54_weigh.calls (k : Nat) : ∀ (a0_0 : Int) (a0_1 : ByteArray) (a0_2 : Int) (A0_3 : Option Addr) (c0_3 : Nat) (l0_3 : List (S25)) (a1 : Int) (r : Int) (w : World) (hr0_3 : Kd.C k25 w A0_3 l0_3.length l0_3) (hc0_3 : l0_3.length ≤ c0_3) (h : arboristref54_weigh.f k a0_0 a0_1 a0_2 l0_3 a1 = some r),
  Calls Try.prog 29 #[.agg #[.int .i64 a0_0, .string a0_1, .int .i64 a0_2, .slice A0_3 l0_3.length c0_3], .int .i64 a1] w fun e w' => e = .returned (.int .i64 r) ∧ Below w.heap.size w w' := by
 induction k using Nat.strongRecOn with
 | _ k ih =>
 intro a0_0 a0_1 a0_2 A0_3 c0_3 l0_3 a1 r w hr0_3 hc0_3 h
 cases k with
 | zero => exact absurd h (by simp [arboristref54_weigh.f])
 | succ k =>
 simp only [arboristref54_weigh.f] at h
 have hu25 := Try.underlying25
 have HR0_3 := Aside0.mk hr0_3
 have HC0_3 := Aside0.mk hc0_3
 clear hr0_3 hc0_3
 have HB := Aside0.mk (Below.refl w.heap.size w)
 have H : (arboristref54_weigh.l0 k a1 (wrap64 (1 + (wrap64 ((a0_1.size : Int) / 32)))) 0 a0_0 a0_1 a0_2 l0_3) = some r := h
 clear h
 have H' := Aside0.mk H
 clear H
 go_enter Try.func29, Try.ntmps29
 go_wp2_with (first | ((with_reducible refine gate_dst (N := 2) rfl ?_); refine box_event ?hg (N := 2) ?hd (cs := #[.int .i64 a0_0, .string a0_1, .int .i64 a0_2, .slice A0_3 l0_3.length c0_3]) (t := 25) ?hr ?_; (case hd => rfl); (case hg => rfl); (case hr => first | (go_simp; done) | (go_simp; rfl)); intro gb101 hg w3 hbox hb; have n0_ := Aside0.mk (below_step (hB_t HB.out) hb); have n1_ := Aside0.mk (hbox); have n2_ := Aside0.mk ((by rw [hg]; exact (below_size (hB_t HB.out)) : w.heap.size ≤ gb101)); have n3_ := Aside0.mk ((by rw [hg]; exact (below_size (hB_t HB.out)) : w.heap.size ≤ gb101)); clear HB; have HB := n0_; have BK101 := n1_; have GW101 := n2_; have GE101 := n3_; clear n0_ n1_ n2_ n3_; clear hb hbox hg; have hcz4_0 : w3.cell? ⟨gb101, 0, none⟩ = some (.int .i64 a0_0) := (blk_cell BK101.out 0).trans rfl; have hcz4_1 : w3.cell? ⟨gb101, 1, none⟩ = some (.string a0_1) := (blk_cell BK101.out 1).trans rfl; have hcz4_2 : w3.cell? ⟨gb101, 2, none⟩ = some (.int .i64 a0_2) := (blk_cell BK101.out 2).trans rfl; have hcz4_3 : w3.cell? ⟨gb101, 3, none⟩ = some (.slice A0_3 l0_3.length c0_3) := (blk_cell BK101.out 3).trans rfl; have hfz4_0 := blk_frozen BK101.out 0; have hfz4_1 := blk_frozen BK101.out 1; have hfz4_2 := blk_frozen BK101.out 2; have hfz4_3 := blk_frozen BK101.out 3))
 go_loopg [5, 6] k (fun kq v5 v6 w' => ∃ (x5_1 : Int) (x6_1 : Int), v5 = .int .i64 x5_1 ∧ v6 = .int .i64 x6_1 ∧ Aside0 (arboristref54_weigh.l0 kq a1 x5_1 x6_1 a0_0 a0_1 a0_2 l0_3 = some r) ∧ Aside0 (kq ≤ k) ∧ Aside0 (w'.heap[gb101]? = some (.cells #[.int .i64 a0_0, .string a0_1, .int .i64 a0_2, (.slice A0_3 l0_3.length c0_3)] 25 (0, 0))) ∧ Aside0 (Below w.heap.size w w'))
 case atStart => exact ⟨(wrap64 (1 + (wrap64 ((a0_1.size : Int) / 32)))), (0), (by first | rfl | (simp; done) | (simp [*]; done)), (by first | rfl | (simp; done) | (simp [*]; done)), H', ⟨Nat.le_refl _⟩, ⟨bT BK101.out⟩, ⟨by repeat (with_reducible first | exact HB.out | apply below_alloc | apply pw_below_drewN | apply below_drew1 | refine below_set ?_ GE101.out)⟩⟩
 case round =>
  clear H'
  try clear c2
  try clear p2
  try clear hcz4_0
  try clear hcz4_1
  try clear hcz4_2
  try clear hcz4_3
  try clear hfz4_0
  try clear hfz4_1
  try clear hfz4_2
  try clear hfz4_3
  try clear HK1
  try clear BK101
  try clear HB
  obtain ⟨x5_1, x6_1, rfl, rfl, HA, HK1, BK101, HB⟩ := hrel
  cases gk with
  | zero => exact absurd HA.out (by simp [arboristref54_weigh.l0])
  | succ k1 =>
   have H := HA.out
   clear HA
   simp only [arboristref54_weigh.l0] at H
   by_cases c5 : x6_1 < (l0_3.length : Int)
   ·rw [if_pos c5] at H
    have c5b0 : decide (x6_1 < (l0_3.length : Int)) = true := decide_eq_true c5
    clear c5
    by_cases c6 : x5_1 ≤ a1
    ·rw [if_pos c6] at H
     have c6b0 : decide (x5_1 ≤ a1) = true := decide_eq_true c6
     clear c6
     by_cases c7 : 0 ≤ x6_1
     ·rw [if_pos c7] at H
      have c7b0 : decide (0 ≤ x6_1) = true := decide_eq_true c7
      clear c7
      replace H := Option.bind_eq_some_iff.mp H
      obtain ⟨t103, A80, H⟩ := H
      replace H : (arboristref54_weigh.l0 k1 a1 (wrap64 (x5_1 + t103)) (wrap64 (x6_1 + 1)) a0_0 a0_1 a0_2 l0_3) = some r := H
      have A8 := Aside0.mk A80
      clear A80
      have H' := Aside0.mk H
      clear H
      have hcz9_0 : wr.cell? ⟨gb101, 0, none⟩ = some (.int .i64 a0_0) := (blk_cell BK101.out 0).trans rfl
      have hcz9_1 : wr.cell? ⟨gb101, 1, none⟩ = some (.string a0_1) := (blk_cell BK101.out 1).trans rfl
      have hcz9_2 : wr.cell? ⟨gb101, 2, none⟩ = some (.int .i64 a0_2) := (blk_cell BK101.out 2).trans rfl
      have hcz9_3 : wr.cell? ⟨gb101, 3, none⟩ = some (.slice A0_3 l0_3.length c0_3) := (blk_cell BK101.out 3).trans rfl
      have hfz9_0 := blk_frozen BK101.out 0
      have hfz9_1 := blk_frozen BK101.out 1
      have hfz9_2 := blk_frozen BK101.out 2
      have hfz9_3 := blk_frozen BK101.out 3
      have p102 : 0 ≤ (x6_1 : Int) := of_decide_eq_true (by first | (with_reducible assumption) | assumption)
      have q102 : x6_1 < (l0_3.length : Int) := of_decide_eq_true (by first | (with_reducible assumption) | assumption)
      obtain ⟨ad102, A102_3, c102_3, e102, hx102_0, hx102_1, hx102_2, hx102_3, hl102_3, hi102_3⟩ := at_T25 HR0_3.out x6_1 p102 q102
      cases e102
      replace hx102_0 := (HB.out.cell (World.block_lt_of_cell? w _ hx102_0)).trans hx102_0
      replace hx102_1 := (HB.out.cell (World.block_lt_of_cell? w _ hx102_1)).trans hx102_1
      replace hx102_2 := (HB.out.cell (World.block_lt_of_cell? w _ hx102_2)).trans hx102_2
      replace hx102_3 := (HB.out.cell (World.block_lt_of_cell? w _ hx102_3)).trans hx102_3
      have HR102_3 := Aside0.mk hi102_3
      have HC102_3 := Aside0.mk hl102_3
      clear hi102_3 hl102_3
      replace p102 := eq_true p102
      replace q102 := eq_true q102
      go_wp2_with (first | ((with_reducible refine gate_callee (f := 29) rfl ?_); refine goesL_ (some 33) rfl rfl Try.func29 (by kernel_rfl) rfl #[.agg #[.int .i64 ((rd_T25 l0_3 x6_1).f0), .string ((rd_T25 l0_3 x6_1).f1), .int .i64 ((rd_T25 l0_3 x6_1).f2), .slice A102_3 ((rd_T25 l0_3 x6_1).f3).length c102_3], .int .i64 (wrap64 (a1 - x5_1))] rfl (by (try simp only [List.map_toArray, List.map_cons, List.map_nil]); first | done | rfl | (simp only [List.length_drop, List.length_take]; rfl)) ?_; (with_reducible refine (ih k1 (by have := HK1.out; omega) ((rd_T25 l0_3 x6_1).f0) ((rd_T25 l0_3 x6_1).f1) ((rd_T25 l0_3 x6_1).f2) _ _ ((rd_T25 l0_3 x6_1).f3) (wrap64 (a1 - x5_1)) t103 _ ?side1 ?side2 A8.out).mono ?_); (case side1 => repeat (first | exact (Kd.C_below HR102_3.out HB.out) | (with_reducible refine Kd.C_alloc ?_ _) | (with_reducible refine Kd.C_drewN ?_ _) | (with_reducible refine Kd.C_drew ?_))); (case side2 => exact HC102_3.out); rintro e w10 ⟨rfl, hb⟩; refine ⟨_, rfl, ?_⟩; have n0_ := Aside0.mk (blk_below (bT BK101.out) hb); have n1_ := Aside0.mk (below_step (by repeat (with_reducible first | exact HB.out | apply below_alloc | apply pw_below_drewN | apply below_drew1 | refine below_set ?_ GE101.out)) hb); clear BK101; clear HB; have BK101 := n0_; have HB := n1_; clear n0_ n1_; (try clear hb); (try clear hb2); (try clear hk); (try clear hi)))
      go_roundg k1
      case measure => have := HK1.out; omega
      case rel => exact ⟨(wrap64 (x5_1 + t103)), (wrap64 (x6_1 + 1)), (by first | rfl | (simp; done) | (simp [*]; done)), (by first | rfl | (simp; done) | (simp [*]; done)), H', ⟨by have := HK1.out; omega⟩, ⟨bT BK101.out⟩, ⟨by repeat (with_reducible first | exact HB.out | apply below_alloc | apply pw_below_drewN | apply below_drew1 | refine below_set ?_ GE101.out)⟩⟩
     ·rw [if_neg c7] at H
      exact absurd H (by simp)
    ·rw [if_neg c6] at H
     have c6b0 : decide (x5_1 ≤ a1) = false := decide_eq_false c6
     clear c6
     obtain rfl := Option.some.inj H
     have hcz11_0 : wr.cell? ⟨gb101, 0, none⟩ = some (.int .i64 a0_0) := (blk_cell BK101.out 0).trans rfl
     have hcz11_1 : wr.cell? ⟨gb101, 1, none⟩ = some (.string a0_1) := (blk_cell BK101.out 1).trans rfl
     have hcz11_2 : wr.cell? ⟨gb101, 2, none⟩ = some (.int .i64 a0_2) := (blk_cell BK101.out 2).trans rfl
     have hcz11_3 : wr.cell? ⟨gb101, 3, none⟩ = some (.slice A0_3 l0_3.length c0_3) := (blk_cell BK101.out 3).trans rfl
     have hfz11_0 := blk_frozen BK101.out 0
     have hfz11_1 := blk_frozen BK101.out 1
     have hfz11_2 := blk_frozen BK101.out 2
     have hfz11_3 := blk_frozen BK101.out 3
     go_wp2
     go_ret
     exact ⟨by first | rfl | (simp [errW_none, errW_some] <;> rfl) | (simp [*, errW_none, errW_some] <;> rfl), by repeat (with_reducible first | exact HB.out | apply below_alloc | apply pw_below_drewN | apply below_drew1 | refine below_set ?_ GE101.out)⟩
   ·rw [if_neg c5] at H
    have c5b0 : decide (x6_1 < (l0_3.length : Int)) = false := decide_eq_false c5
    clear c5
    obtain rfl := Option.some.inj H
    have hcz12_0 : wr.cell? ⟨gb101, 0, none⟩ = some (.int .i64 a0_0) := (blk_cell BK101.out 0).trans rfl
    have hcz12_1 : wr.cell? ⟨gb101, 1, none⟩ = some (.string a0_1) := (blk_cell BK101.out 1).trans rfl
    have hcz12_2 : wr.cell? ⟨gb101, 2, none⟩ = some (.int .i64 a0_2) := (blk_cell BK101.out 2).trans rfl
    have hcz12_3 : wr.cell? ⟨gb101, 3, none⟩ = some (.slice A0_3 l0_3.length c0_3) := (blk_cell BK101.out 3).trans rfl
    have hfz12_0 := blk_frozen BK101.out 0
    have hfz12_1 := blk_frozen BK101.out 1
    have hfz12_2 := blk_frozen BK101.out 2
    have hfz12_3 := blk_frozen BK101.out 3
    go_wp2
    go_ret
    exact ⟨by first | rfl | (simp [errW_none, errW_some] <;> rfl) | (simp [*, errW_none, errW_some] <;> rfl), by repeat (with_reducible first | exact HB.out | apply below_alloc | apply pw_below_drewN | apply below_drew1 | refine below_set ?_ GE101.out)⟩

/-! ### arboristref54_Few: function 9 -/
def arboristref54_Few.f (k : Nat) (a0_0 : Int) (a0_1 : ByteArray) (a0_2 : Int) (l0_3 : List (S25)) (a1 : Int) : Option (Bool) := (arboristref54_weigh.f k a0_0 a0_1 a0_2 l0_3 a1).bind fun t105 => (some (decide (t105 ≤ a1)))
theorem arboristref54_Few.mono : ∀ a0 a1 a2 a3 a4 k, LeO (arboristref54_Few.f k a0 a1 a2 a3 a4) (arboristref54_Few.f (k + 1) a0 a1 a2 a3 a4) := by
 intro a0 a1 a2 a3 a4 k
 unfold arboristref54_Few.f
 repeat' first
   | (with_reducible exact arboristref54_weigh.mono _ _ _ _ _ _)
   | (with_reducible exact LeO.refl _)
   | (with_reducible exact LeO.none _)
   | (with_reducible refine LeO.ite ?_ ?_)
   | (with_reducible refine LeO.bind ?_ (fun _ => ?_))
   | exact arboristref54_weigh.mono _ _ _ _ _ _
   | exact LeO.none _
   | refine LeO.ite ?_ ?_
   | refine LeO.bind ?_ (fun _ => ?_)
set_option maxHeartbeats 8000000 in
set_option maxRecDepth 100000 in
theorem arboristref54_Few.calls (k : Nat) (a0_0 : Int) (a0_1 : ByteArray) (a0_2 : Int) (A0_3 : Option Addr) (c0_3 : Nat) (l0_3 : List (S25)) (a1 : Int) (r : Bool) (w : World) (hr0_3 : Kd.C k25 w A0_3 l0_3.length l0_3) (hc0_3 : l0_3.length ≤ c0_3) (h : arboristref54_Few.f k a0_0 a0_1 a0_2 l0_3 a1 = some r) :
  Calls Try.prog 9 #[.agg #[.int .i64 a0_0, .string a0_1, .int .i64 a0_2, .slice A0_3 l0_3.length c0_3], .int .i64 a1] w fun e w' => e = .returned (.bool r) ∧ Below w.heap.size w w' := by
 have hu25 := Try.underlying25
 have HR0_3 := Aside0.mk hr0_3
 have HC0_3 := Aside0.mk hc0_3
 clear hr0_3 hc0_3
 have HB := Aside0.mk (Below.refl w.heap.size w)
 have H : ((arboristref54_weigh.f k a0_0 a0_1 a0_2 l0_3 a1).bind fun t105 => (some (decide (t105 ≤ a1)))) = some r := h
 clear h
 replace H := Option.bind_eq_some_iff.mp H
 obtain ⟨t105, A30, H⟩ := H
 replace H : (some (decide (t105 ≤ a1))) = some r := H
 have A3 := Aside0.mk A30
 clear A30
 obtain rfl := Option.some.inj H
 go_enter Try.func9, Try.ntmps9
 go_wp2_with (first | ((with_reducible refine gate_dst (N := 2) rfl ?_); refine box_event ?hg (N := 2) ?hd (cs := #[.int .i64 a0_0, .string a0_1, .int .i64 a0_2, .slice A0_3 l0_3.length c0_3]) (t := 25) ?hr ?_; (case hd => rfl); (case hg => rfl); (case hr => first | (go_simp; done) | (go_simp; rfl)); intro gb104 hg w4 hbox hb; have n0_ := Aside0.mk (below_step (hB_t HB.out) hb); have n1_ := Aside0.mk (hbox); have n2_ := Aside0.mk ((by rw [hg]; exact (below_size (hB_t HB.out)) : w.heap.size ≤ gb104)); have n3_ := Aside0.mk ((by rw [hg]; exact (below_size (hB_t HB.out)) : w.heap.size ≤ gb104)); clear HB; have HB := n0_; have BK104 := n1_; have GW104 := n2_; have GE104 := n3_; clear n0_ n1_ n2_ n3_; clear hb hbox hg; have hcz5_0 : w4.cell? ⟨gb104, 0, none⟩ = some (.int .i64 a0_0) := (blk_cell BK104.out 0).trans rfl; have hcz5_1 : w4.cell? ⟨gb104, 1, none⟩ = some (.string a0_1) := (blk_cell BK104.out 1).trans rfl; have hcz5_2 : w4.cell? ⟨gb104, 2, none⟩ = some (.int .i64 a0_2) := (blk_cell BK104.out 2).trans rfl; have hcz5_3 : w4.cell? ⟨gb104, 3, none⟩ = some (.slice A0_3 l0_3.length c0_3) := (blk_cell BK104.out 3).trans rfl; have hfz5_0 := blk_frozen BK104.out 0; have hfz5_1 := blk_frozen BK104.out 1; have hfz5_2 := blk_frozen BK104.out 2; have hfz5_3 := blk_frozen BK104.out 3) | ((with_reducible refine gate_callee (f := 29) rfl ?_); refine goesL_ (some 7) rfl rfl Try.func29 (by kernel_rfl) rfl #[.agg #[.int .i64 a0_0, .string a0_1, .int .i64 a0_2, .slice A0_3 l0_3.length c0_3], .int .i64 a1] rfl (by (try simp only [List.map_toArray, List.map_cons, List.map_nil]); first | done | rfl | (simp only [List.length_drop, List.length_take]; rfl)) ?_; (with_reducible refine (arboristref54_weigh.calls k a0_0 a0_1 a0_2 _ _ l0_3 a1 t105 _ ?side1 ?side2 A3.out).mono ?_); (case side1 => repeat (first | exact (Kd.C_below HR0_3.out HB.out) | (with_reducible refine Kd.C_alloc ?_ _) | (with_reducible refine Kd.C_drewN ?_ _) | (with_reducible refine Kd.C_drew ?_))); (case side2 => exact HC0_3.out); rintro e w6 ⟨rfl, hb⟩; refine ⟨_, rfl, ?_⟩; have n0_ := Aside0.mk (blk_below (bT BK104.out) hb); have n1_ := Aside0.mk (below_step (by repeat (with_reducible first | exact HB.out | apply below_alloc | apply pw_below_drewN | apply below_drew1 | refine below_set ?_ GE104.out)) hb); clear BK104; clear HB; have BK104 := n0_; have HB := n1_; clear n0_ n1_; (try clear hb); (try clear hb2); (try clear hk); (try clear hi)))
 go_ret
 exact ⟨by first | rfl | (simp [errW_none, errW_some] <;> rfl) | (simp [*, errW_none, errW_some] <;> rfl), by repeat (with_reducible first | exact HB.out | apply below_alloc | apply pw_below_drewN | apply below_drew1 | refine below_set ?_ GE104.out)⟩

/-! ### prettydoc_Size: function 13 -/
mutual
def prettydoc_Size_1.l0 : Nat → List S25 → Int → Int → Option Int
  | 0, _, _, _ => none
  | k + 1, l, i, n => if i < (l.length : Int) then (if n > 8192 then some n else (prettydoc_Size_1.f k (rd_T25 l i).f3 n).bind fun m => prettydoc_Size_1.l0 k l (wrap64 (i + 1)) m) else some n
def prettydoc_Size_1.f : Nat → List S25 → Int → Option Int
  | 0, _, _ => none
  | k + 1, l, n => prettydoc_Size_1.l0 k l 0 (wrap64 (n + 1))
end
theorem prettydoc_Size_1.mono_l : ∀ k, (∀ y0 y1, LeO (prettydoc_Size_1.f k y0 y1) (prettydoc_Size_1.f (k + 1) y0 y1)) ∧ (∀ y0 y1 y2, LeO (prettydoc_Size_1.l0 k y0 y1 y2) (prettydoc_Size_1.l0 (k + 1) y0 y1 y2))
  | 0 => ⟨fun _ _ r h => by simp [prettydoc_Size_1.f] at h, fun _ _ _ r h => by simp [prettydoc_Size_1.l0] at h⟩
  | k + 1 => by
    obtain ⟨ih0, ih1⟩ := prettydoc_Size_1.mono_l k
    refine ⟨?_, ?_⟩
    · intro y0 y1
      unfold prettydoc_Size_1.f
      repeat' first
      | (with_reducible exact ih0 _ _)
      | (with_reducible exact ih1 _ _ _)
      | (with_reducible exact LeO.refl _)
      | (with_reducible exact LeO.none _)
      | (with_reducible refine LeO.ite ?_ ?_)
      | (with_reducible refine LeO.bind ?_ (fun _ => ?_))
    · intro y0 y1 y2
      unfold prettydoc_Size_1.l0
      repeat' first
      | (with_reducible exact ih0 _ _)
      | (with_reducible exact ih1 _ _ _)
      | (with_reducible exact LeO.refl _)
      | (with_reducible exact LeO.none _)
      | (with_reducible refine LeO.ite ?_ ?_)
      | (with_reducible refine LeO.bind ?_ (fun _ => ?_))
set_option maxHeartbeats 1000000 in
set_option maxRecDepth 100000 in
theorem size1_calls (W0 : World) (bn bc : Nat) (hbn : W0.heap.size ≤ bn) (hbc : W0.heap.size ≤ bc) (hne : bn ≠ bc) (k : Nat) : ∀ (a0_0 : Int) (a0_1 : ByteArray) (a0_2 : Int) (A : Option Addr) (c : Nat) (l : List S25) (n m : Int) (w : World)
    (hn : w.heap[bn]? = some (.cells #[.int .i64 n] 3 (0, 0))) (hf : w.heap[bc]? = some (.cells #[.func (.func 34) #[] #[.pointer (some ⟨bn, 0, none⟩), .pointer (some ⟨bc, 0, none⟩)]] 44 (0, 0)))
    (hr : Kd.C k25 W0 A l.length l) (hc : l.length ≤ c) (hB : Below W0.heap.size W0 w) (h : prettydoc_Size_1.f k l n = some m),
    Calls Try.prog 34 #[.agg #[.int .i64 a0_0, .string a0_1, .int .i64 a0_2, .slice A l.length c], .pointer (some ⟨bn, 0, none⟩), .pointer (some ⟨bc, 0, none⟩)] w fun e w' =>
      e = .returned (.tuple #[]) ∧ w'.heap[bn]? = some (.cells #[.int .i64 m] 3 (0, 0)) ∧ w'.heap[bc]? = some (.cells #[.func (.func 34) #[] #[.pointer (some ⟨bn, 0, none⟩), .pointer (some ⟨bc, 0, none⟩)]] 44 (0, 0)) ∧ Below W0.heap.size W0 w' := by
  induction k using Nat.strongRecOn with
  | _ k ih =>
  intro a0_0 a0_1 a0_2 A c l n m w hn hf hr hc hB h
  cases k with
  | zero => exact absurd h (by simp [prettydoc_Size_1.f])
  | succ k =>
  simp only [prettydoc_Size_1.f] at h
  have hu25 := Try.underlying25
  have HR := Aside0.mk hr
  have HC := Aside0.mk hc
  have HN := Aside0.mk hn
  have HF := Aside0.mk hf
  have HB := Aside0.mk hB
  have IH := Aside0.mk ih
  have H := Aside0.mk h
  have c0 : w.cell? ⟨bn, 0, none⟩ = some (.int .i64 n) := (blk_cell hn 0).trans rfl
  have f0 := blk_frozen hn 0
  have d0 : w.cell? ⟨bc, 0, none⟩ = some (.func (.func 34) #[] #[.pointer (some ⟨bn, 0, none⟩), .pointer (some ⟨bc, 0, none⟩)]) := (blk_cell hf 0).trans rfl
  have lt0 : bn < w.heap.size := blk_lt hn
  have lt1 : bc < w.heap.size := blk_lt hf
  clear hr hc hn hf hB ih h
  go_enter Try.func34, Try.ntmps34
  go_wp2
  have hl64 : (l.length : Int) ≤ 9223372036854775807 := by have := HR.out.2.1; omega
  have HL := Aside0.mk hl64
  clear hl64
  have n0 : Aside0 (((w.setCell ⟨bn, 0, none⟩ (.int .i64 (wrap64 (n + 1)))).alloc (.cells #[.int .i64 a0_0, .string a0_1, .int .i64 a0_2, .slice A l.length c] 25)).heap[bn]? = some (.cells #[.int .i64 (wrap64 (n + 1))] 3 (0, 0))) := ⟨blk_alloc (blk_put HN.out 0 _ rfl) _⟩
  have n1 : Aside0 (((w.setCell ⟨bn, 0, none⟩ (.int .i64 (wrap64 (n + 1)))).alloc (.cells #[.int .i64 a0_0, .string a0_1, .int .i64 a0_2, .slice A l.length c] 25)).heap[bc]? = some (.cells #[.func (.func 34) #[] #[.pointer (some ⟨bn, 0, none⟩), .pointer (some ⟨bc, 0, none⟩)]] 44 (0, 0))) := ⟨blk_alloc (blk_far HF.out (p := ⟨bn, 0, none⟩) (fun e => hne e.symm) _) _⟩
  have n2 : Aside0 (Below W0.heap.size W0 ((w.setCell ⟨bn, 0, none⟩ (.int .i64 (wrap64 (n + 1)))).alloc (.cells #[.int .i64 a0_0, .string a0_1, .int .i64 a0_2, .slice A l.length c] 25))) := ⟨below_alloc (below_set HB.out hbn) _⟩
  clear HN HF HB c0 f0 d0 lt0 lt1
  go_loopg [11] k (fun kq v11 w' => ∃ i ni : Int, v11 = .int .i64 i ∧ Aside0 (0 ≤ i) ∧ Aside0 (prettydoc_Size_1.l0 kq l i ni = some m) ∧ Aside0 (kq ≤ k) ∧ Aside0 (w'.heap[bn]? = some (.cells #[.int .i64 ni] 3 (0, 0))) ∧ Aside0 (w'.heap[bc]? = some (.cells #[.func (.func 34) #[] #[.pointer (some ⟨bn, 0, none⟩), .pointer (some ⟨bc, 0, none⟩)]] 44 (0, 0))) ∧ Aside0 (Below W0.heap.size W0 w'))
  case atStart => exact ⟨0, wrap64 (n + 1), rfl, ⟨Int.le_refl _⟩, H, ⟨Nat.le_refl _⟩, n0, n1, n2⟩
  case round =>
    clear n0 n1 n2 H
    obtain ⟨i, ni, rfl, HI, HA, HK, HN, HF, HB⟩ := hrel
    cases gk with
    | zero => exact absurd HA.out (by simp [prettydoc_Size_1.l0])
    | succ k2 =>
      have H := HA.out
      clear HA
      simp only [prettydoc_Size_1.l0] at H
      have c0 : wr.cell? ⟨bn, 0, none⟩ = some (.int .i64 ni) := (blk_cell HN.out 0).trans rfl
      have d0 : wr.cell? ⟨bc, 0, none⟩ = some (.func (.func 34) #[] #[.pointer (some ⟨bn, 0, none⟩), .pointer (some ⟨bc, 0, none⟩)]) := (blk_cell HF.out 0).trans rfl
      have lt0 : bn < wr.heap.size := blk_lt HN.out
      have lt1 : bc < wr.heap.size := blk_lt HF.out
      by_cases c7 : i < (l.length : Int)
      · rw [if_pos c7] at H
        have c7b0 : decide (i < (l.length : Int)) = true := decide_eq_true c7
        obtain ⟨ad, A3, c3, e3, hx0, hx1, hx2, hx3, hl3, hi3⟩ := at_T25 HR.out i HI.out c7
        cases e3
        have hx0 := (HB.out.cell (World.block_lt_of_cell? W0 _ hx0)).trans hx0
        have hx1 := (HB.out.cell (World.block_lt_of_cell? W0 _ hx1)).trans hx1
        have hx2 := (HB.out.cell (World.block_lt_of_cell? W0 _ hx2)).trans hx2
        have hx3 := (HB.out.cell (World.block_lt_of_cell? W0 _ hx3)).trans hx3
        have HR3 := Aside0.mk hi3
        have HC3 := Aside0.mk hl3
        clear hi3 hl3
        have p0 := eq_true HI.out
        replace c7 := eq_true c7
        by_cases c8 : ni > 8192
        · rw [if_pos c8] at H
          have c8b0 : decide (8192 < ni) = true := decide_eq_true c8
          obtain rfl := Option.some.inj H
          clear H
          go_wp2_with fail
          refine bodyPost_ret (v := .tuple #[]) (by simp [results, Try.results34, go_sem]) rfl ?_
          exact ⟨rfl, blk_alloc HN.out _, blk_alloc HF.out _, below_alloc HB.out _⟩
        · rw [if_neg c8] at H
          have c8b0 : decide (8192 < ni) = false := decide_eq_false c8
          replace H := Option.bind_eq_some_iff.mp H
          obtain ⟨m2, A10, H⟩ := H
          have A1 := Aside0.mk A10
          have H1 := Aside0.mk H
          clear A10 H
          go_wp2_with fail
          refine (IH.out k2 (by have := HK.out; omega) _ _ _ A3 c3 _ ni m2 _ (blk_alloc HN.out _) (blk_alloc HF.out _) HR3.out HC3.out (below_alloc HB.out _) A1.out).mono ?_
          rintro e w1 ⟨rfl, hn1, hf1, hb1⟩
          have HN1 := Aside0.mk hn1
          have HF1 := Aside0.mk hf1
          have HB1 := Aside0.mk hb1
          clear hn1 hf1 hb1
          go_wp2
          go_roundg k2
          case measure => have := HK.out; omega
          case rel => exact ⟨_, m2, rfl, ⟨by have := HI.out; have := HL.out; have := of_eq_true c7; unfold wrap64; omega⟩, H1, ⟨by have := HK.out; omega⟩, HN1, HF1, HB1⟩
      · rw [if_neg c7] at H
        have c7b0 : decide (i < (l.length : Int)) = false := decide_eq_false c7
        obtain rfl := Option.some.inj H
        clear H
        go_wp2
        go_end0
        exact ⟨rfl, HN.out, HF.out, HB.out⟩
theorem blk_alloc_at {w : World} {g : Nat} {o : Obj} (h : w.heap.size = g) : (w.alloc o).heap[g]? = some o := by
  subst h
  exact blk_new w o
def prettydoc_Size.f (k : Nat) (a0_0 : Int) (a0_1 : ByteArray) (a0_2 : Int) (l0_3 : List S25) : Option Int := (prettydoc_Size_1.f k l0_3 0).bind fun n => some (mn n 8193)
theorem prettydoc_Size.mono : ∀ a0 a1 a2 a3 k, LeO (prettydoc_Size.f k a0 a1 a2 a3) (prettydoc_Size.f (k + 1) a0 a1 a2 a3) := by
  intro a0 a1 a2 a3 k
  obtain ⟨ih0, ih1⟩ := prettydoc_Size_1.mono_l k
  unfold prettydoc_Size.f
  exact LeO.bind (ih0 _ _) (fun _ => LeO.refl _)
set_option maxHeartbeats 1000000 in
theorem prettydoc_Size.calls (k : Nat) (a0_0 : Int) (a0_1 : ByteArray) (a0_2 : Int) (A0_3 : Option Addr) (c0_3 : Nat) (l0_3 : List S25) (r : Int) (w : World) (hr0_3 : Kd.C k25 w A0_3 l0_3.length l0_3) (hc0_3 : l0_3.length ≤ c0_3) (h : prettydoc_Size.f k a0_0 a0_1 a0_2 l0_3 = some r) :
    Calls Try.prog 13 #[.agg #[.int .i64 a0_0, .string a0_1, .int .i64 a0_2, .slice A0_3 l0_3.length c0_3]] w fun e w' => e = .returned (.int .i64 r) ∧ Below w.heap.size w w' := by
  obtain ⟨n, h1, h2⟩ := Option.bind_eq_some_iff.mp h
  have H1 := Aside0.mk h1
  have H2 := Aside0.mk (Option.some.inj h2)
  have HR := Aside0.mk hr0_3
  have HC := Aside0.mk hc0_3
  clear h h1 h2 hr0_3 hc0_3
  have hu25 := Try.underlying25
  go_enter Try.func13, Try.ntmps13
  go_wp2_with fail
  refine (size1_calls w (w.heap.size + 1) (w.heap.size + 1 + 1) (by omega) (by omega) (by omega) k a0_0 a0_1 a0_2 A0_3 c0_3 l0_3 0 n _ ?hn ?hf HR.out HC.out (below_alloc (below_alloc (below_alloc (Below.refl _ _) _) _) _) H1.out).mono ?_
  case hn => exact blk_alloc (blk_alloc_at (by simp)) _
  case hf => exact blk_alloc_at (by simp)
  rintro e w1 ⟨rfl, hn1, hf1, hb1⟩
  have c0 : w1.cell? ⟨w.heap.size + 1, 0, none⟩ = some (.int .i64 n) := (blk_cell hn1 0).trans rfl
  have HB1 := Aside0.mk hb1
  clear hb1 hn1 hf1
  go_wp2
  all_goals
    go_ret
    refine ⟨?_, HB1.out⟩
    rw [← H2.out]
    unfold mn
    split <;> first | rfl | omega


end Go.Proofs.Ytcmhffjcicolcaa.PA
