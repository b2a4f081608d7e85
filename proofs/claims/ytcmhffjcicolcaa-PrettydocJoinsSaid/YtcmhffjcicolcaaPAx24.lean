-- WRITTEN BY pp.py out of the translation; Lean checks it.
import Derived.Test.YtcmhffjcicolcaaPAx0
import Derived.Test.YtcmhffjcicolcaaPAx1
import Derived.Test.YtcmhffjcicolcaaPAx4
import Derived.Test.YtcmhffjcicolcaaPAx5
import Derived.Test.YtcmhffjcicolcaaPAx7
import Derived.Test.YtcmhffjcicolcaaPAx8
import Derived.Test.YtcmhffjcicolcaaPAx10
import Derived.Test.YtcmhffjcicolcaaPAx22
namespace Go.Proofs.Ytcmhffjcicolcaa.PA
open Go.RowKit Go.Proofs.YtcmhffjcicolcaaW.PrintWords Go.Proofs.YtcmhffjcicolcaaW.PrintLast Go.Proofs.YtcmhffjcicolcaaW.PrintMore
attribute [local go_sem] max2_int min2_int max_two min_two max_three min_three max_four min_four   -- for this text's walks alone
set_option linter.unusedVariables false
set_option linter.unusedSimpArgs false

/-! ### arboristlaw54_PrettydocJoins_v0: function 8 -/
def arboristlaw54_PrettydocJoins_v0.j0 : Nat → Bool → Option (Bool)
 | 0, _ => none
 | k + 1, x33 => if x33 = true then ((arboristlaw54_knows.f k).bind fun t381 => (some t381)) else (none)
def arboristlaw54_PrettydocJoins_v0.f (k : Nat) (a0_0 : Int) (a0_1 : ByteArray) (a0_2 : Int) (l0_3 : List (S25)) (a1_0 : Int) (a1_1 : ByteArray) (a1_2 : Int) (l1_3 : List (S25)) (a2 : Int) : Option (Bool) := (arboristref54_Few.f k a0_0 a0_1 a0_2 l0_3 300).bind fun t377 => (if t377 = true then ((arboristref54_Few.f k a1_0 a1_1 a1_2 l1_3 300).bind fun t378 => (if t378 = true then ((prettydoc_Right.f k a0_0 a0_1 a0_2 l0_3).bind fun t379 => (if t379 = 0 then ((prettydoc_Right.f k a1_0 a1_1 a1_2 l1_3).bind fun t380 => (arboristlaw54_PrettydocJoins_v0.j0 k (t380 != 0))) else (arboristlaw54_PrettydocJoins_v0.j0 k true))) else (arboristlaw54_PrettydocJoins_v0.j0 k true))) else (arboristlaw54_PrettydocJoins_v0.j0 k true))
theorem arboristlaw54_PrettydocJoins_v0.mono_l : ∀ k, (∀ y0, LeO (arboristlaw54_PrettydocJoins_v0.j0 k y0) (arboristlaw54_PrettydocJoins_v0.j0 (k + 1) y0))
 | 0 => fun _ r h => by simp [arboristlaw54_PrettydocJoins_v0.j0] at h
 | k + 1 => by
  have ih0 := arboristlaw54_PrettydocJoins_v0.mono_l k
  ·intro y0
   unfold arboristlaw54_PrettydocJoins_v0.j0
   repeat' first
   | (with_reducible exact ih0 _)
   | (with_reducible exact arboristlaw54_knows.mono _)
   | (with_reducible exact arboristref54_Few.mono _ _ _ _ _ _)
   | (with_reducible exact prettydoc_Cat.mono _ _)
   | (with_reducible exact prettydoc_Flat.mono _ _ _ _ _)
   | (with_reducible exact prettydoc_Group.mono _ _ _ _ _)
   | (with_reducible exact prettydoc_Groups.mono _ _ _ _ _)
   | (with_reducible exact prettydoc_Nest.mono _ _ _ _ _ _)
   | (with_reducible exact prettydoc_Right.mono _ _ _ _ _)
   | (with_reducible exact prettydoc_Size.mono _ _ _ _ _)
   | (with_reducible exact LeO.refl _)
   | (with_reducible exact LeO.none _)
   | (with_reducible refine LeO.ite ?_ ?_)
   | (with_reducible refine LeO.bind ?_ (fun _ => ?_))
   | exact ih0 _
   | exact arboristlaw54_knows.mono _
   | exact arboristref54_Few.mono _ _ _ _ _ _
   | exact prettydoc_Cat.mono _ _
   | exact prettydoc_Flat.mono _ _ _ _ _
   | exact prettydoc_Group.mono _ _ _ _ _
   | exact prettydoc_Groups.mono _ _ _ _ _
   | exact prettydoc_Nest.mono _ _ _ _ _ _
   | exact prettydoc_Right.mono _ _ _ _ _
   | exact prettydoc_Size.mono _ _ _ _ _
   | exact LeO.none _
   | refine LeO.ite ?_ ?_
   | refine LeO.bind ?_ (fun _ => ?_)
theorem arboristlaw54_PrettydocJoins_v0.mono : ∀ a0 a1 a2 a3 a4 a5 a6 a7 a8 k, LeO (arboristlaw54_PrettydocJoins_v0.f k a0 a1 a2 a3 a4 a5 a6 a7 a8) (arboristlaw54_PrettydocJoins_v0.f (k + 1) a0 a1 a2 a3 a4 a5 a6 a7 a8) := by
 intro a0 a1 a2 a3 a4 a5 a6 a7 a8 k
 have ih0 := arboristlaw54_PrettydocJoins_v0.mono_l k
 unfold arboristlaw54_PrettydocJoins_v0.f
 repeat' first
   | (with_reducible exact ih0 _)
   | (with_reducible exact arboristlaw54_knows.mono _)
   | (with_reducible exact arboristref54_Few.mono _ _ _ _ _ _)
   | (with_reducible exact prettydoc_Cat.mono _ _)
   | (with_reducible exact prettydoc_Flat.mono _ _ _ _ _)
   | (with_reducible exact prettydoc_Group.mono _ _ _ _ _)
   | (with_reducible exact prettydoc_Groups.mono _ _ _ _ _)
   | (with_reducible exact prettydoc_Nest.mono _ _ _ _ _ _)
   | (with_reducible exact prettydoc_Right.mono _ _ _ _ _)
   | (with_reducible exact prettydoc_Size.mono _ _ _ _ _)
   | (with_reducible exact LeO.refl _)
   | (with_reducible exact LeO.none _)
   | (with_reducible refine LeO.ite ?_ ?_)
   | (with_reducible refine LeO.bind ?_ (fun _ => ?_))
   | exact ih0 _
   | exact arboristlaw54_knows.mono _
   | exact arboristref54_Few.mono _ _ _ _ _ _
   | exact prettydoc_Cat.mono _ _
   | exact prettydoc_Flat.mono _ _ _ _ _
   | exact prettydoc_Group.mono _ _ _ _ _
   | exact prettydoc_Groups.mono _ _ _ _ _
   | exact prettydoc_Nest.mono _ _ _ _ _ _
   | exact prettydoc_Right.mono _ _ _ _ _
   | exact prettydoc_Size.mono _ _ _ _ _
   | exact LeO.none _
   | refine LeO.ite ?_ ?_
   | refine LeO.bind ?_ (fun _ => ?_)
set_option maxHeartbeats 8000000 in
set_option maxRecDepth 100000 in
theorem arboristlaw54_PrettydocJoins_v0.calls (k : Nat) (a0_0 : Int) (a0_1 : ByteArray) (a0_2 : Int) (P0_3_ : Nat → Prop) (A0_3 : Option Addr) (c0_3 : Nat) (l0_3 : List (S25)) (a1_0 : Int) (a1_1 : ByteArray) (a1_2 : Int) (P1_3_ : Nat → Prop) (A1_3 : Option Addr) (c1_3 : Nat) (l1_3 : List (S25)) (a2 : Int) (r : Bool) (w : World) (hs0_3 : Kd.V k25 25 w w.heap.size (fun k_ => P0_3_ k_) (.slice A0_3 l0_3.length c0_3) l0_3) (hs1_3 : Kd.V k25 25 w w.heap.size (fun k_ => P1_3_ k_) (.slice A1_3 l1_3.length c1_3) l1_3) (h : arboristlaw54_PrettydocJoins_v0.f k a0_0 a0_1 a0_2 l0_3 a1_0 a1_1 a1_2 l1_3 a2 = some r) :
  Calls Try.prog 8 #[.agg #[.int .i64 a0_0, .string a0_1, .int .i64 a0_2, .slice A0_3 l0_3.length c0_3], .agg #[.int .i64 a1_0, .string a1_1, .int .i64 a1_2, .slice A1_3 l1_3.length c1_3], .int .u8 a2] w fun e w' => e = .returned (.bool r) ∧ Below w.heap.size w w' := by
 have hu25 := Try.underlying25
 have HO0_3 := Aside0.mk (show Kd.V k25 25 w w.heap.size (fun k_ => ((P0_3_ k_ ∨ P1_3_ k_) ∨ w.heap.size ≤ k_)) (.slice A0_3 l0_3.length c0_3) l0_3 from Kd.V_mono hs0_3 (fun k_ hk => .inl (.inl hk)))
 have HO1_3 := Aside0.mk (show Kd.V k25 25 w w.heap.size (fun k_ => ((P0_3_ k_ ∨ P1_3_ k_) ∨ w.heap.size ≤ k_)) (.slice A1_3 l1_3.length c1_3) l1_3 from Kd.V_mono hs1_3 (fun k_ hk => .inl (.inr hk)))
 have HB := Aside0.mk (Below.refl w.heap.size w)
 have H : ((arboristref54_Few.f k a0_0 a0_1 a0_2 l0_3 300).bind fun t377 => (if t377 = true then ((arboristref54_Few.f k a1_0 a1_1 a1_2 l1_3 300).bind fun t378 => (if t378 = true then ((prettydoc_Right.f k a0_0 a0_1 a0_2 l0_3).bind fun t379 => (if t379 = 0 then ((prettydoc_Right.f k a1_0 a1_1 a1_2 l1_3).bind fun t380 => (arboristlaw54_PrettydocJoins_v0.j0 k (t380 != 0))) else (arboristlaw54_PrettydocJoins_v0.j0 k true))) else (arboristlaw54_PrettydocJoins_v0.j0 k true))) else (arboristlaw54_PrettydocJoins_v0.j0 k true))) = some r := h
 clear h
 have HC4 := Aside0.mk H
 clear H
 go_enter Try.func8, Try.ntmps8
 go_upto_region 1 with (first | ((with_reducible refine gate_dst (N := 3) rfl ?_); refine box_event ?hg (N := 3) ?hd (cs := #[.int .i64 a0_0, .string a0_1, .int .i64 a0_2, .slice A0_3 l0_3.length c0_3]) (t := 25) ?hr ?_; (case hd => rfl); (case hg => rfl); (case hr => first | (go_simp; done) | (go_simp; rfl)); intro gb375 hg w5 hbox hb; have n0_ := Aside0.mk (Kd.V_below (Kd.V_elderB (Kd.V_t HO0_3.out) gb375 (Nat.le_of_eq hg.symm)) hb); have n1_ := Aside0.mk (Kd.V_below (Kd.V_elderB (Kd.V_t HO1_3.out) gb375 (Nat.le_of_eq hg.symm)) hb); have n2_ := Aside0.mk (below_step (hB_t HB.out) hb); have n3_ := Aside0.mk (hbox); have n4_ := Aside0.mk ((by rw [hg]; exact (below_size (hB_t HB.out)) : w.heap.size ≤ gb375)); have n5_ := Aside0.mk ((by rw [hg]; exact (below_size (hB_t HB.out)) : w.heap.size ≤ gb375)); clear HO0_3; clear HO1_3; clear HB; have HO0_3 := n0_; have HO1_3 := n1_; have HB := n2_; have BK375 := n3_; have GW375 := n4_; have GE375 := n5_; clear n0_ n1_ n2_ n3_ n4_ n5_; clear hb hbox hg) | ((with_reducible refine gate_dst (N := 4) rfl ?_); refine box_event ?hg (N := 4) ?hd (cs := #[.int .i64 a1_0, .string a1_1, .int .i64 a1_2, .slice A1_3 l1_3.length c1_3]) (t := 25) ?hr ?_; (case hd => rfl); (case hg => rfl); (case hr => first | (go_simp; done) | (go_simp; rfl)); intro gb376 hg w6 hbox hb; have n0_ := Aside0.mk (Kd.V_below (Kd.V_elderB (Kd.V_t HO0_3.out) gb376 (Nat.le_of_eq hg.symm)) hb); have n1_ := Aside0.mk (Kd.V_below (Kd.V_elderB (Kd.V_t HO1_3.out) gb376 (Nat.le_of_eq hg.symm)) hb); have n2_ := Aside0.mk (blk_below (bT BK375.out) hb); have n3_ := Aside0.mk (below_step (by repeat (with_reducible first | exact HB.out | apply below_alloc | apply pw_below_drewN | apply below_drew1 | refine below_set ?_ GE375.out)) hb); have n4_ := Aside0.mk (hbox); have n5_ := Aside0.mk ((by rw [hg]; exact (below_size (by repeat (with_reducible first | exact HB.out | apply below_alloc | apply pw_below_drewN | apply below_drew1 | refine below_set ?_ GE375.out))) : w.heap.size ≤ gb376)); have n6_ := Aside0.mk ((by rw [hg]; exact (below_size (by repeat (with_reducible first | exact HB.out | apply below_alloc | apply pw_below_drewN | apply below_drew1 | refine below_set ?_ GE375.out))) : w.heap.size ≤ gb376)); have n7_ := Aside0.mk ((by rw [hg]; exact Nat.ne_of_lt (blk_lt (bT BK375.out)) : gb375 ≠ gb376)); have n8_ := Aside0.mk ((by rw [hg]; exact Nat.ne_of_gt (blk_lt (bT BK375.out)) : gb376 ≠ gb375)); clear HO0_3; clear HO1_3; clear BK375; clear HB; have HO0_3 := n0_; have HO1_3 := n1_; have BK375 := n2_; have HB := n3_; have BK376 := n4_; have GW376 := n5_; have GE376 := n6_; have NB375_376 := n7_; have NB376_375 := n8_; clear n0_ n1_ n2_ n3_ n4_ n5_ n6_ n7_ n8_; clear hb hbox hg))
 (try simp only [Act.put, List.setIfInBounds_toArray, List.set_cons_zero, List.set_cons_succ])
 go_cut [33] (fun v33 wc => ∃ (kq : Nat) (x33_3 : Bool), v33 = .bool x33_3 ∧ Aside0 (arboristlaw54_PrettydocJoins_v0.j0 kq x33_3 = some r) ∧ Aside0 (kq ≤ k) ∧ Aside0 (Kd.V k25 25 wc w.heap.size (fun k_ => ((P0_3_ k_ ∨ P1_3_ k_) ∨ w.heap.size ≤ k_) ∧ k_ ≠ gb375 ∧ k_ ≠ gb376) (.slice A0_3 l0_3.length c0_3) l0_3) ∧ Aside0 (Kd.V k25 25 wc w.heap.size (fun k_ => ((P0_3_ k_ ∨ P1_3_ k_) ∨ w.heap.size ≤ k_) ∧ k_ ≠ gb375 ∧ k_ ≠ gb376) (.slice A1_3 l1_3.length c1_3) l1_3) ∧ Aside0 (wc.heap[gb375]? = some (.cells #[.int .i64 a0_0, .string a0_1, .int .i64 a0_2, (.slice A0_3 l0_3.length c0_3)] 25 (0, 0))) ∧ Aside0 (wc.heap[gb376]? = some (.cells #[.int .i64 a1_0, .string a1_1, .int .i64 a1_2, (.slice A1_3 l1_3.length c1_3)] 25 (0, 0))) ∧ Aside0 (Below w.heap.size w wc))
 case first =>
  have H := HC4.out
  clear HC4
  replace H := Option.bind_eq_some_iff.mp H
  obtain ⟨t377, A70, H⟩ := H
  replace H : (if t377 = true then ((arboristref54_Few.f k a1_0 a1_1 a1_2 l1_3 300).bind fun t378 => (if t378 = true then ((prettydoc_Right.f k a0_0 a0_1 a0_2 l0_3).bind fun t379 => (if t379 = 0 then ((prettydoc_Right.f k a1_0 a1_1 a1_2 l1_3).bind fun t380 => (arboristlaw54_PrettydocJoins_v0.j0 k (t380 != 0))) else (arboristlaw54_PrettydocJoins_v0.j0 k true))) else (arboristlaw54_PrettydocJoins_v0.j0 k true))) else (arboristlaw54_PrettydocJoins_v0.j0 k true)) = some r := H
  have A7 := Aside0.mk A70
  clear A70
  by_cases c8 : t377 = true
  ·subst c8
   have H1 : ((arboristref54_Few.f k a1_0 a1_1 a1_2 l1_3 300).bind fun t378 => (if t378 = true then ((prettydoc_Right.f k a0_0 a0_1 a0_2 l0_3).bind fun t379 => (if t379 = 0 then ((prettydoc_Right.f k a1_0 a1_1 a1_2 l1_3).bind fun t380 => (arboristlaw54_PrettydocJoins_v0.j0 k (t380 != 0))) else (arboristlaw54_PrettydocJoins_v0.j0 k true))) else (arboristlaw54_PrettydocJoins_v0.j0 k true))) = some r := by rw [if_pos rfl] at H; exact H
   clear H
   have H := H1
   clear H1
   replace H := Option.bind_eq_some_iff.mp H
   obtain ⟨t378, A90, H⟩ := H
   replace H : (if t378 = true then ((prettydoc_Right.f k a0_0 a0_1 a0_2 l0_3).bind fun t379 => (if t379 = 0 then ((prettydoc_Right.f k a1_0 a1_1 a1_2 l1_3).bind fun t380 => (arboristlaw54_PrettydocJoins_v0.j0 k (t380 != 0))) else (arboristlaw54_PrettydocJoins_v0.j0 k true))) else (arboristlaw54_PrettydocJoins_v0.j0 k true)) = some r := H
   have A9 := Aside0.mk A90
   clear A90
   by_cases c10 : t378 = true
   ·subst c10
    have H1 : ((prettydoc_Right.f k a0_0 a0_1 a0_2 l0_3).bind fun t379 => (if t379 = 0 then ((prettydoc_Right.f k a1_0 a1_1 a1_2 l1_3).bind fun t380 => (arboristlaw54_PrettydocJoins_v0.j0 k (t380 != 0))) else (arboristlaw54_PrettydocJoins_v0.j0 k true))) = some r := by rw [if_pos rfl] at H; exact H
    clear H
    have H := H1
    clear H1
    replace H := Option.bind_eq_some_iff.mp H
    obtain ⟨t379, A110, H⟩ := H
    replace H : (if t379 = 0 then ((prettydoc_Right.f k a1_0 a1_1 a1_2 l1_3).bind fun t380 => (arboristlaw54_PrettydocJoins_v0.j0 k (t380 != 0))) else (arboristlaw54_PrettydocJoins_v0.j0 k true)) = some r := H
    have A11 := Aside0.mk A110
    clear A110
    by_cases c12 : t379 = 0
    ·rw [if_pos c12] at H
     have c12b0 : (t379 == 0) = true := beq_iff_eq.mpr c12
     have c12b1 : (t379 != 0) = false := bne_eq_false_iff_eq.mpr c12
     clear c12
     (first | rw [c12b0] | (simp only [i64_w, i32_w]; rw [c12b0]) | skip)
     replace H := Option.bind_eq_some_iff.mp H
     obtain ⟨t380, A130, H⟩ := H
     replace H : (arboristlaw54_PrettydocJoins_v0.j0 k (t380 != 0)) = some r := H
     have A13 := Aside0.mk A130
     clear A130
     have H' := Aside0.mk H
     clear H
     have hnb14 := NB375_376.out
     have hnc14 := NB376_375.out
     have hcz15_0 : w6.cell? ⟨gb375, 0, none⟩ = some (.int .i64 a0_0) := (blk_cell BK375.out 0).trans rfl
     have hcz15_1 : w6.cell? ⟨gb375, 1, none⟩ = some (.string a0_1) := (blk_cell BK375.out 1).trans rfl
     have hcz15_2 : w6.cell? ⟨gb375, 2, none⟩ = some (.int .i64 a0_2) := (blk_cell BK375.out 2).trans rfl
     have hcz15_3 : w6.cell? ⟨gb375, 3, none⟩ = some (.slice A0_3 l0_3.length c0_3) := (blk_cell BK375.out 3).trans rfl
     have hfz15_0 := blk_frozen BK375.out 0
     have hfz15_1 := blk_frozen BK375.out 1
     have hfz15_2 := blk_frozen BK375.out 2
     have hfz15_3 := blk_frozen BK375.out 3
     go_wp2_with (first | ((with_reducible refine gate_callee (f := 9) rfl ?_); refine goesL_ (some 17) rfl rfl Try.func9 (by kernel_rfl) rfl #[.agg #[.int .i64 a0_0, .string a0_1, .int .i64 a0_2, .slice A0_3 l0_3.length c0_3], .int .i64 300] rfl (by (try simp only [List.map_toArray, List.map_cons, List.map_nil]); first | done | rfl | (simp only [List.length_drop, List.length_take]; rfl)) ?_; (with_reducible refine (arboristref54_Few.calls k a0_0 a0_1 a0_2 _ _ l0_3 300 true _ ?side1 ?side2 A7.out).mono ?_); (case side1 => repeat (first | exact (Kd.V_reads' HO0_3.out).2.2 | (with_reducible refine Kd.C_alloc ?_ _) | (with_reducible refine Kd.C_drewN ?_ _) | (with_reducible refine Kd.C_drew ?_))); (case side2 => exact (Kd.V_reads' HO0_3.out).2.1); rintro e w16 ⟨rfl, hb⟩; refine ⟨_, rfl, ?_⟩; have n0_ := Aside0.mk (Kd.V_below (Kd.V_t HO0_3.out) hb); have n1_ := Aside0.mk (Kd.V_below (Kd.V_t HO1_3.out) hb); have n2_ := Aside0.mk (blk_below (bT BK375.out) hb); have n3_ := Aside0.mk (blk_below (bT BK376.out) hb); have n4_ := Aside0.mk (below_step (by repeat (with_reducible first | exact HB.out | apply below_alloc | apply pw_below_drewN | apply below_drew1 | refine below_set ?_ GE375.out | refine below_set ?_ GE376.out)) hb); clear HO0_3; clear HO1_3; clear BK375; clear BK376; clear HB; have HO0_3 := n0_; have HO1_3 := n1_; have BK375 := n2_; have BK376 := n3_; have HB := n4_; clear n0_ n1_ n2_ n3_ n4_; (try clear hb); (try clear hb2); (try clear hk); (try clear hi); have hcz17_0 : w16.cell? ⟨gb376, 0, none⟩ = some (.int .i64 a1_0) := (blk_cell BK376.out 0).trans rfl; have hcz17_1 : w16.cell? ⟨gb376, 1, none⟩ = some (.string a1_1) := (blk_cell BK376.out 1).trans rfl; have hcz17_2 : w16.cell? ⟨gb376, 2, none⟩ = some (.int .i64 a1_2) := (blk_cell BK376.out 2).trans rfl; have hcz17_3 : w16.cell? ⟨gb376, 3, none⟩ = some (.slice A1_3 l1_3.length c1_3) := (blk_cell BK376.out 3).trans rfl; have hfz17_0 := blk_frozen BK376.out 0; have hfz17_1 := blk_frozen BK376.out 1; have hfz17_2 := blk_frozen BK376.out 2; have hfz17_3 := blk_frozen BK376.out 3) | (go_at_call 9; (with_reducible refine (arboristref54_Few.calls k a1_0 a1_1 a1_2 _ _ l1_3 300 true _ ?side1 ?side2 A9.out).mono ?_); (case side1 => repeat (first | exact (Kd.V_reads' HO1_3.out).2.2 | (with_reducible refine Kd.C_alloc ?_ _) | (with_reducible refine Kd.C_drewN ?_ _) | (with_reducible refine Kd.C_drew ?_))); (case side2 => exact (Kd.V_reads' HO1_3.out).2.1); rintro e w18 ⟨rfl, hb⟩; have n0_ := Aside0.mk (Kd.V_below (Kd.V_t HO0_3.out) hb); have n1_ := Aside0.mk (Kd.V_below (Kd.V_t HO1_3.out) hb); have n2_ := Aside0.mk (blk_below (bT BK375.out) hb); have n3_ := Aside0.mk (blk_below (bT BK376.out) hb); have n4_ := Aside0.mk (below_step (by repeat (with_reducible first | exact HB.out | apply below_alloc | apply pw_below_drewN | apply below_drew1 | refine below_set ?_ GE375.out | refine below_set ?_ GE376.out)) hb); clear HO0_3; clear HO1_3; clear BK375; clear BK376; clear HB; have HO0_3 := n0_; have HO1_3 := n1_; have BK375 := n2_; have BK376 := n3_; have HB := n4_; clear n0_ n1_ n2_ n3_ n4_; (try clear hb); (try clear hb2); (try clear hk); (try clear hi); have hcz19_0 : w18.cell? ⟨gb375, 0, none⟩ = some (.int .i64 a0_0) := (blk_cell BK375.out 0).trans rfl; have hcz19_1 : w18.cell? ⟨gb375, 1, none⟩ = some (.string a0_1) := (blk_cell BK375.out 1).trans rfl; have hcz19_2 : w18.cell? ⟨gb375, 2, none⟩ = some (.int .i64 a0_2) := (blk_cell BK375.out 2).trans rfl; have hcz19_3 : w18.cell? ⟨gb375, 3, none⟩ = some (.slice A0_3 l0_3.length c0_3) := (blk_cell BK375.out 3).trans rfl; have hfz19_0 := blk_frozen BK375.out 0; have hfz19_1 := blk_frozen BK375.out 1; have hfz19_2 := blk_frozen BK375.out 2; have hfz19_3 := blk_frozen BK375.out 3) | (go_at_call 11; (with_reducible refine (prettydoc_Right.calls k a0_0 a0_1 a0_2 _ _ l0_3 t379 _ ?side1 ?side2 A11.out).mono ?_); (case side1 => repeat (first | exact (Kd.V_reads' HO0_3.out).2.2 | (with_reducible refine Kd.C_alloc ?_ _) | (with_reducible refine Kd.C_drewN ?_ _) | (with_reducible refine Kd.C_drew ?_))); (case side2 => exact (Kd.V_reads' HO0_3.out).2.1); rintro e w20 ⟨rfl, hb⟩; have n0_ := Aside0.mk (Kd.V_below (Kd.V_t HO0_3.out) hb); have n1_ := Aside0.mk (Kd.V_below (Kd.V_t HO1_3.out) hb); have n2_ := Aside0.mk (blk_below (bT BK375.out) hb); have n3_ := Aside0.mk (blk_below (bT BK376.out) hb); have n4_ := Aside0.mk (below_step (by repeat (with_reducible first | exact HB.out | apply below_alloc | apply pw_below_drewN | apply below_drew1 | refine below_set ?_ GE375.out | refine below_set ?_ GE376.out)) hb); clear HO0_3; clear HO1_3; clear BK375; clear BK376; clear HB; have HO0_3 := n0_; have HO1_3 := n1_; have BK375 := n2_; have BK376 := n3_; have HB := n4_; clear n0_ n1_ n2_ n3_ n4_; (try clear hb); (try clear hb2); (try clear hk); (try clear hi); have hcz21_0 : w20.cell? ⟨gb376, 0, none⟩ = some (.int .i64 a1_0) := (blk_cell BK376.out 0).trans rfl; have hcz21_1 : w20.cell? ⟨gb376, 1, none⟩ = some (.string a1_1) := (blk_cell BK376.out 1).trans rfl; have hcz21_2 : w20.cell? ⟨gb376, 2, none⟩ = some (.int .i64 a1_2) := (blk_cell BK376.out 2).trans rfl; have hcz21_3 : w20.cell? ⟨gb376, 3, none⟩ = some (.slice A1_3 l1_3.length c1_3) := (blk_cell BK376.out 3).trans rfl; have hfz21_0 := blk_frozen BK376.out 0; have hfz21_1 := blk_frozen BK376.out 1; have hfz21_2 := blk_frozen BK376.out 2; have hfz21_3 := blk_frozen BK376.out 3) | (go_at_call 11; (with_reducible refine (prettydoc_Right.calls k a1_0 a1_1 a1_2 _ _ l1_3 t380 _ ?side1 ?side2 A13.out).mono ?_); (case side1 => repeat (first | exact (Kd.V_reads' HO1_3.out).2.2 | (with_reducible refine Kd.C_alloc ?_ _) | (with_reducible refine Kd.C_drewN ?_ _) | (with_reducible refine Kd.C_drew ?_))); (case side2 => exact (Kd.V_reads' HO1_3.out).2.1); rintro e w22 ⟨rfl, hb⟩; have n0_ := Aside0.mk (Kd.V_below (Kd.V_t HO0_3.out) hb); have n1_ := Aside0.mk (Kd.V_below (Kd.V_t HO1_3.out) hb); have n2_ := Aside0.mk (blk_below (bT BK375.out) hb); have n3_ := Aside0.mk (blk_below (bT BK376.out) hb); have n4_ := Aside0.mk (below_step (by repeat (with_reducible first | exact HB.out | apply below_alloc | apply pw_below_drewN | apply below_drew1 | refine below_set ?_ GE375.out | refine below_set ?_ GE376.out)) hb); clear HO0_3; clear HO1_3; clear BK375; clear BK376; clear HB; have HO0_3 := n0_; have HO1_3 := n1_; have BK375 := n2_; have BK376 := n3_; have HB := n4_; clear n0_ n1_ n2_ n3_ n4_; (try clear hb); (try clear hb2); (try clear hk); (try clear hi)))
     go_meet
     case rel => exact ⟨_, ((t380 != 0)), (by first | rfl | (simp; done) | (simp [*]; done)), H', ⟨by first | omega | exact Nat.le_refl _⟩, ⟨Kd.V_t (Kd.V_mono HO0_3.out (fun _ hk => ⟨hk.1.1, ⟨hk.1.2, hk.2⟩⟩))⟩, ⟨Kd.V_t (Kd.V_mono HO1_3.out (fun _ hk => ⟨hk.1.1, ⟨hk.1.2, hk.2⟩⟩))⟩, ⟨bT BK375.out⟩, ⟨bT BK376.out⟩, ⟨by repeat (with_reducible first | exact HB.out | apply below_alloc | apply pw_below_drewN | apply below_drew1 | refine below_set ?_ GE375.out | refine below_set ?_ GE376.out)⟩⟩
    ·rw [if_neg c12] at H
     have c12b0 : (t379 == 0) = false := beq_eq_false_iff_ne.mpr c12
     have c12b1 : (t379 != 0) = true := bne_iff_ne.mpr c12
     (first | rw [c12b0] | (simp only [i64_w, i32_w]; rw [c12b0]) | skip)
     have H' := Aside0.mk H
     clear H
     have hnb23 := NB375_376.out
     have hnc23 := NB376_375.out
     have hcz24_0 : w6.cell? ⟨gb375, 0, none⟩ = some (.int .i64 a0_0) := (blk_cell BK375.out 0).trans rfl
     have hcz24_1 : w6.cell? ⟨gb375, 1, none⟩ = some (.string a0_1) := (blk_cell BK375.out 1).trans rfl
     have hcz24_2 : w6.cell? ⟨gb375, 2, none⟩ = some (.int .i64 a0_2) := (blk_cell BK375.out 2).trans rfl
     have hcz24_3 : w6.cell? ⟨gb375, 3, none⟩ = some (.slice A0_3 l0_3.length c0_3) := (blk_cell BK375.out 3).trans rfl
     have hfz24_0 := blk_frozen BK375.out 0
     have hfz24_1 := blk_frozen BK375.out 1
     have hfz24_2 := blk_frozen BK375.out 2
     have hfz24_3 := blk_frozen BK375.out 3
     go_wp2_with (first | ((with_reducible refine gate_callee (f := 9) rfl ?_); refine goesL_ (some 17) rfl rfl Try.func9 (by kernel_rfl) rfl #[.agg #[.int .i64 a0_0, .string a0_1, .int .i64 a0_2, .slice A0_3 l0_3.length c0_3], .int .i64 300] rfl (by (try simp only [List.map_toArray, List.map_cons, List.map_nil]); first | done | rfl | (simp only [List.length_drop, List.length_take]; rfl)) ?_; (with_reducible refine (arboristref54_Few.calls k a0_0 a0_1 a0_2 _ _ l0_3 300 true _ ?side1 ?side2 A7.out).mono ?_); (case side1 => repeat (first | exact (Kd.V_reads' HO0_3.out).2.2 | (with_reducible refine Kd.C_alloc ?_ _) | (with_reducible refine Kd.C_drewN ?_ _) | (with_reducible refine Kd.C_drew ?_))); (case side2 => exact (Kd.V_reads' HO0_3.out).2.1); rintro e w25 ⟨rfl, hb⟩; refine ⟨_, rfl, ?_⟩; have n0_ := Aside0.mk (Kd.V_below (Kd.V_t HO0_3.out) hb); have n1_ := Aside0.mk (Kd.V_below (Kd.V_t HO1_3.out) hb); have n2_ := Aside0.mk (blk_below (bT BK375.out) hb); have n3_ := Aside0.mk (blk_below (bT BK376.out) hb); have n4_ := Aside0.mk (below_step (by repeat (with_reducible first | exact HB.out | apply below_alloc | apply pw_below_drewN | apply below_drew1 | refine below_set ?_ GE375.out | refine below_set ?_ GE376.out)) hb); clear HO0_3; clear HO1_3; clear BK375; clear BK376; clear HB; have HO0_3 := n0_; have HO1_3 := n1_; have BK375 := n2_; have BK376 := n3_; have HB := n4_; clear n0_ n1_ n2_ n3_ n4_; (try clear hb); (try clear hb2); (try clear hk); (try clear hi); have hcz26_0 : w25.cell? ⟨gb376, 0, none⟩ = some (.int .i64 a1_0) := (blk_cell BK376.out 0).trans rfl; have hcz26_1 : w25.cell? ⟨gb376, 1, none⟩ = some (.string a1_1) := (blk_cell BK376.out 1).trans rfl; have hcz26_2 : w25.cell? ⟨gb376, 2, none⟩ = some (.int .i64 a1_2) := (blk_cell BK376.out 2).trans rfl; have hcz26_3 : w25.cell? ⟨gb376, 3, none⟩ = some (.slice A1_3 l1_3.length c1_3) := (blk_cell BK376.out 3).trans rfl; have hfz26_0 := blk_frozen BK376.out 0; have hfz26_1 := blk_frozen BK376.out 1; have hfz26_2 := blk_frozen BK376.out 2; have hfz26_3 := blk_frozen BK376.out 3) | (go_at_call 9; (with_reducible refine (arboristref54_Few.calls k a1_0 a1_1 a1_2 _ _ l1_3 300 true _ ?side1 ?side2 A9.out).mono ?_); (case side1 => repeat (first | exact (Kd.V_reads' HO1_3.out).2.2 | (with_reducible refine Kd.C_alloc ?_ _) | (with_reducible refine Kd.C_drewN ?_ _) | (with_reducible refine Kd.C_drew ?_))); (case side2 => exact (Kd.V_reads' HO1_3.out).2.1); rintro e w27 ⟨rfl, hb⟩; have n0_ := Aside0.mk (Kd.V_below (Kd.V_t HO0_3.out) hb); have n1_ := Aside0.mk (Kd.V_below (Kd.V_t HO1_3.out) hb); have n2_ := Aside0.mk (blk_below (bT BK375.out) hb); have n3_ := Aside0.mk (blk_below (bT BK376.out) hb); have n4_ := Aside0.mk (below_step (by repeat (with_reducible first | exact HB.out | apply below_alloc | apply pw_below_drewN | apply below_drew1 | refine below_set ?_ GE375.out | refine below_set ?_ GE376.out)) hb); clear HO0_3; clear HO1_3; clear BK375; clear BK376; clear HB; have HO0_3 := n0_; have HO1_3 := n1_; have BK375 := n2_; have BK376 := n3_; have HB := n4_; clear n0_ n1_ n2_ n3_ n4_; (try clear hb); (try clear hb2); (try clear hk); (try clear hi); have hcz28_0 : w27.cell? ⟨gb375, 0, none⟩ = some (.int .i64 a0_0) := (blk_cell BK375.out 0).trans rfl; have hcz28_1 : w27.cell? ⟨gb375, 1, none⟩ = some (.string a0_1) := (blk_cell BK375.out 1).trans rfl; have hcz28_2 : w27.cell? ⟨gb375, 2, none⟩ = some (.int .i64 a0_2) := (blk_cell BK375.out 2).trans rfl; have hcz28_3 : w27.cell? ⟨gb375, 3, none⟩ = some (.slice A0_3 l0_3.length c0_3) := (blk_cell BK375.out 3).trans rfl; have hfz28_0 := blk_frozen BK375.out 0; have hfz28_1 := blk_frozen BK375.out 1; have hfz28_2 := blk_frozen BK375.out 2; have hfz28_3 := blk_frozen BK375.out 3) | (go_at_call 11; (with_reducible refine (prettydoc_Right.calls k a0_0 a0_1 a0_2 _ _ l0_3 t379 _ ?side1 ?side2 A11.out).mono ?_); (case side1 => repeat (first | exact (Kd.V_reads' HO0_3.out).2.2 | (with_reducible refine Kd.C_alloc ?_ _) | (with_reducible refine Kd.C_drewN ?_ _) | (with_reducible refine Kd.C_drew ?_))); (case side2 => exact (Kd.V_reads' HO0_3.out).2.1); rintro e w29 ⟨rfl, hb⟩; have n0_ := Aside0.mk (Kd.V_below (Kd.V_t HO0_3.out) hb); have n1_ := Aside0.mk (Kd.V_below (Kd.V_t HO1_3.out) hb); have n2_ := Aside0.mk (blk_below (bT BK375.out) hb); have n3_ := Aside0.mk (blk_below (bT BK376.out) hb); have n4_ := Aside0.mk (below_step (by repeat (with_reducible first | exact HB.out | apply below_alloc | apply pw_below_drewN | apply below_drew1 | refine below_set ?_ GE375.out | refine below_set ?_ GE376.out)) hb); clear HO0_3; clear HO1_3; clear BK375; clear BK376; clear HB; have HO0_3 := n0_; have HO1_3 := n1_; have BK375 := n2_; have BK376 := n3_; have HB := n4_; clear n0_ n1_ n2_ n3_ n4_; (try clear hb); (try clear hb2); (try clear hk); (try clear hi)))
     go_meet
     case rel => exact ⟨_, (true), (by first | rfl | (simp; done) | (simp [*]; done)), H', ⟨by first | omega | exact Nat.le_refl _⟩, ⟨Kd.V_t (Kd.V_mono HO0_3.out (fun _ hk => ⟨hk.1.1, ⟨hk.1.2, hk.2⟩⟩))⟩, ⟨Kd.V_t (Kd.V_mono HO1_3.out (fun _ hk => ⟨hk.1.1, ⟨hk.1.2, hk.2⟩⟩))⟩, ⟨bT BK375.out⟩, ⟨bT BK376.out⟩, ⟨by repeat (with_reducible first | exact HB.out | apply below_alloc | apply pw_below_drewN | apply below_drew1 | refine below_set ?_ GE375.out | refine below_set ?_ GE376.out)⟩⟩
   ·replace c10 := Bool.eq_false_iff.mpr c10
    subst c10
    have H1 : (arboristlaw54_PrettydocJoins_v0.j0 k true) = some r := by rw [if_neg (show ¬ (false = true) by decide)] at H; exact H
    clear H
    have H := H1
    clear H1
    have H' := Aside0.mk H
    clear H
    have hnb30 := NB375_376.out
    have hnc30 := NB376_375.out
    have hcz31_0 : w6.cell? ⟨gb375, 0, none⟩ = some (.int .i64 a0_0) := (blk_cell BK375.out 0).trans rfl
    have hcz31_1 : w6.cell? ⟨gb375, 1, none⟩ = some (.string a0_1) := (blk_cell BK375.out 1).trans rfl
    have hcz31_2 : w6.cell? ⟨gb375, 2, none⟩ = some (.int .i64 a0_2) := (blk_cell BK375.out 2).trans rfl
    have hcz31_3 : w6.cell? ⟨gb375, 3, none⟩ = some (.slice A0_3 l0_3.length c0_3) := (blk_cell BK375.out 3).trans rfl
    have hfz31_0 := blk_frozen BK375.out 0
    have hfz31_1 := blk_frozen BK375.out 1
    have hfz31_2 := blk_frozen BK375.out 2
    have hfz31_3 := blk_frozen BK375.out 3
    go_wp2_with (first | ((with_reducible refine gate_callee (f := 9) rfl ?_); refine goesL_ (some 17) rfl rfl Try.func9 (by kernel_rfl) rfl #[.agg #[.int .i64 a0_0, .string a0_1, .int .i64 a0_2, .slice A0_3 l0_3.length c0_3], .int .i64 300] rfl (by (try simp only [List.map_toArray, List.map_cons, List.map_nil]); first | done | rfl | (simp only [List.length_drop, List.length_take]; rfl)) ?_; (with_reducible refine (arboristref54_Few.calls k a0_0 a0_1 a0_2 _ _ l0_3 300 true _ ?side1 ?side2 A7.out).mono ?_); (case side1 => repeat (first | exact (Kd.V_reads' HO0_3.out).2.2 | (with_reducible refine Kd.C_alloc ?_ _) | (with_reducible refine Kd.C_drewN ?_ _) | (with_reducible refine Kd.C_drew ?_))); (case side2 => exact (Kd.V_reads' HO0_3.out).2.1); rintro e w32 ⟨rfl, hb⟩; refine ⟨_, rfl, ?_⟩; have n0_ := Aside0.mk (Kd.V_below (Kd.V_t HO0_3.out) hb); have n1_ := Aside0.mk (Kd.V_below (Kd.V_t HO1_3.out) hb); have n2_ := Aside0.mk (blk_below (bT BK375.out) hb); have n3_ := Aside0.mk (blk_below (bT BK376.out) hb); have n4_ := Aside0.mk (below_step (by repeat (with_reducible first | exact HB.out | apply below_alloc | apply pw_below_drewN | apply below_drew1 | refine below_set ?_ GE375.out | refine below_set ?_ GE376.out)) hb); clear HO0_3; clear HO1_3; clear BK375; clear BK376; clear HB; have HO0_3 := n0_; have HO1_3 := n1_; have BK375 := n2_; have BK376 := n3_; have HB := n4_; clear n0_ n1_ n2_ n3_ n4_; (try clear hb); (try clear hb2); (try clear hk); (try clear hi); have hcz33_0 : w32.cell? ⟨gb376, 0, none⟩ = some (.int .i64 a1_0) := (blk_cell BK376.out 0).trans rfl; have hcz33_1 : w32.cell? ⟨gb376, 1, none⟩ = some (.string a1_1) := (blk_cell BK376.out 1).trans rfl; have hcz33_2 : w32.cell? ⟨gb376, 2, none⟩ = some (.int .i64 a1_2) := (blk_cell BK376.out 2).trans rfl; have hcz33_3 : w32.cell? ⟨gb376, 3, none⟩ = some (.slice A1_3 l1_3.length c1_3) := (blk_cell BK376.out 3).trans rfl; have hfz33_0 := blk_frozen BK376.out 0; have hfz33_1 := blk_frozen BK376.out 1; have hfz33_2 := blk_frozen BK376.out 2; have hfz33_3 := blk_frozen BK376.out 3) | (go_at_call 9; (with_reducible refine (arboristref54_Few.calls k a1_0 a1_1 a1_2 _ _ l1_3 300 false _ ?side1 ?side2 A9.out).mono ?_); (case side1 => repeat (first | exact (Kd.V_reads' HO1_3.out).2.2 | (with_reducible refine Kd.C_alloc ?_ _) | (with_reducible refine Kd.C_drewN ?_ _) | (with_reducible refine Kd.C_drew ?_))); (case side2 => exact (Kd.V_reads' HO1_3.out).2.1); rintro e w34 ⟨rfl, hb⟩; have n0_ := Aside0.mk (Kd.V_below (Kd.V_t HO0_3.out) hb); have n1_ := Aside0.mk (Kd.V_below (Kd.V_t HO1_3.out) hb); have n2_ := Aside0.mk (blk_below (bT BK375.out) hb); have n3_ := Aside0.mk (blk_below (bT BK376.out) hb); have n4_ := Aside0.mk (below_step (by repeat (with_reducible first | exact HB.out | apply below_alloc | apply pw_below_drewN | apply below_drew1 | refine below_set ?_ GE375.out | refine below_set ?_ GE376.out)) hb); clear HO0_3; clear HO1_3; clear BK375; clear BK376; clear HB; have HO0_3 := n0_; have HO1_3 := n1_; have BK375 := n2_; have BK376 := n3_; have HB := n4_; clear n0_ n1_ n2_ n3_ n4_; (try clear hb); (try clear hb2); (try clear hk); (try clear hi)))
    go_meet
    case rel => exact ⟨_, (true), (by first | rfl | (simp; done) | (simp [*]; done)), H', ⟨by first | omega | exact Nat.le_refl _⟩, ⟨Kd.V_t (Kd.V_mono HO0_3.out (fun _ hk => ⟨hk.1.1, ⟨hk.1.2, hk.2⟩⟩))⟩, ⟨Kd.V_t (Kd.V_mono HO1_3.out (fun _ hk => ⟨hk.1.1, ⟨hk.1.2, hk.2⟩⟩))⟩, ⟨bT BK375.out⟩, ⟨bT BK376.out⟩, ⟨by repeat (with_reducible first | exact HB.out | apply below_alloc | apply pw_below_drewN | apply below_drew1 | refine below_set ?_ GE375.out | refine below_set ?_ GE376.out)⟩⟩
  ·replace c8 := Bool.eq_false_iff.mpr c8
   subst c8
   have H1 : (arboristlaw54_PrettydocJoins_v0.j0 k true) = some r := by rw [if_neg (show ¬ (false = true) by decide)] at H; exact H
   clear H
   have H := H1
   clear H1
   have H' := Aside0.mk H
   clear H
   have hnb35 := NB375_376.out
   have hnc35 := NB376_375.out
   have hcz36_0 : w6.cell? ⟨gb375, 0, none⟩ = some (.int .i64 a0_0) := (blk_cell BK375.out 0).trans rfl
   have hcz36_1 : w6.cell? ⟨gb375, 1, none⟩ = some (.string a0_1) := (blk_cell BK375.out 1).trans rfl
   have hcz36_2 : w6.cell? ⟨gb375, 2, none⟩ = some (.int .i64 a0_2) := (blk_cell BK375.out 2).trans rfl
   have hcz36_3 : w6.cell? ⟨gb375, 3, none⟩ = some (.slice A0_3 l0_3.length c0_3) := (blk_cell BK375.out 3).trans rfl
   have hfz36_0 := blk_frozen BK375.out 0
   have hfz36_1 := blk_frozen BK375.out 1
   have hfz36_2 := blk_frozen BK375.out 2
   have hfz36_3 := blk_frozen BK375.out 3
   go_wp2_with (first | ((with_reducible refine gate_callee (f := 9) rfl ?_); refine goesL_ (some 17) rfl rfl Try.func9 (by kernel_rfl) rfl #[.agg #[.int .i64 a0_0, .string a0_1, .int .i64 a0_2, .slice A0_3 l0_3.length c0_3], .int .i64 300] rfl (by (try simp only [List.map_toArray, List.map_cons, List.map_nil]); first | done | rfl | (simp only [List.length_drop, List.length_take]; rfl)) ?_; (with_reducible refine (arboristref54_Few.calls k a0_0 a0_1 a0_2 _ _ l0_3 300 false _ ?side1 ?side2 A7.out).mono ?_); (case side1 => repeat (first | exact (Kd.V_reads' HO0_3.out).2.2 | (with_reducible refine Kd.C_alloc ?_ _) | (with_reducible refine Kd.C_drewN ?_ _) | (with_reducible refine Kd.C_drew ?_))); (case side2 => exact (Kd.V_reads' HO0_3.out).2.1); rintro e w37 ⟨rfl, hb⟩; refine ⟨_, rfl, ?_⟩; have n0_ := Aside0.mk (Kd.V_below (Kd.V_t HO0_3.out) hb); have n1_ := Aside0.mk (Kd.V_below (Kd.V_t HO1_3.out) hb); have n2_ := Aside0.mk (blk_below (bT BK375.out) hb); have n3_ := Aside0.mk (blk_below (bT BK376.out) hb); have n4_ := Aside0.mk (below_step (by repeat (with_reducible first | exact HB.out | apply below_alloc | apply pw_below_drewN | apply below_drew1 | refine below_set ?_ GE375.out | refine below_set ?_ GE376.out)) hb); clear HO0_3; clear HO1_3; clear BK375; clear BK376; clear HB; have HO0_3 := n0_; have HO1_3 := n1_; have BK375 := n2_; have BK376 := n3_; have HB := n4_; clear n0_ n1_ n2_ n3_ n4_; (try clear hb); (try clear hb2); (try clear hk); (try clear hi)))
   go_meet
   case rel => exact ⟨_, (true), (by first | rfl | (simp; done) | (simp [*]; done)), H', ⟨by first | omega | exact Nat.le_refl _⟩, ⟨Kd.V_t (Kd.V_mono HO0_3.out (fun _ hk => ⟨hk.1.1, ⟨hk.1.2, hk.2⟩⟩))⟩, ⟨Kd.V_t (Kd.V_mono HO1_3.out (fun _ hk => ⟨hk.1.1, ⟨hk.1.2, hk.2⟩⟩))⟩, ⟨bT BK375.out⟩, ⟨bT BK376.out⟩, ⟨by repeat (with_reducible first | exact HB.out | apply below_alloc | apply pw_below_drewN | apply below_drew1 | refine below_set ?_ GE375.out | refine below_set ?_ GE376.out)⟩⟩
 case rest =>
  clear HC4
  try clear c1
  try clear c2
  try clear p2
  try clear c3
  try clear c8
  try clear c9
  try clear c10
  try clear c12
  try clear c12b0
  try clear c12b1
  try clear c14
  try clear c23
  try clear c30
  try clear c35
  try clear hcz15_0
  try clear hcz15_1
  try clear hcz15_2
  try clear hcz15_3
  try clear hcz17_0
  try clear hcz17_1
  try clear hcz17_2
  try clear hcz17_3
  try clear hcz19_0
  try clear hcz19_1
  try clear hcz19_2
  try clear hcz19_3
  try clear hcz21_0
  try clear hcz21_1
  try clear hcz21_2
  try clear hcz21_3
  try clear hcz24_0
  try clear hcz24_1
  try clear hcz24_2
  try clear hcz24_3
  try clear hcz26_0
  try clear hcz26_1
  try clear hcz26_2
  try clear hcz26_3
  try clear hcz28_0
  try clear hcz28_1
  try clear hcz28_2
  try clear hcz28_3
  try clear hcz31_0
  try clear hcz31_1
  try clear hcz31_2
  try clear hcz31_3
  try clear hcz33_0
  try clear hcz33_1
  try clear hcz33_2
  try clear hcz33_3
  try clear hcz36_0
  try clear hcz36_1
  try clear hcz36_2
  try clear hcz36_3
  try clear hfz15_0
  try clear hfz15_1
  try clear hfz15_2
  try clear hfz15_3
  try clear hfz17_0
  try clear hfz17_1
  try clear hfz17_2
  try clear hfz17_3
  try clear hfz19_0
  try clear hfz19_1
  try clear hfz19_2
  try clear hfz19_3
  try clear hfz21_0
  try clear hfz21_1
  try clear hfz21_2
  try clear hfz21_3
  try clear hfz24_0
  try clear hfz24_1
  try clear hfz24_2
  try clear hfz24_3
  try clear hfz26_0
  try clear hfz26_1
  try clear hfz26_2
  try clear hfz26_3
  try clear hfz28_0
  try clear hfz28_1
  try clear hfz28_2
  try clear hfz28_3
  try clear hfz31_0
  try clear hfz31_1
  try clear hfz31_2
  try clear hfz31_3
  try clear hfz33_0
  try clear hfz33_1
  try clear hfz33_2
  try clear hfz33_3
  try clear hfz36_0
  try clear hfz36_1
  try clear hfz36_2
  try clear hfz36_3
  try clear HJ3
  try clear HO_376003
  try clear HO_377003
  try clear BK375
  try clear BK376
  try clear HB
  obtain ⟨kq, x33_3, rfl, HA, HJ3, HO_376003, HO_377003, BK375, BK376, HB⟩ := hcut
  cases kq with
  | zero => exact absurd HA.out (by simp [arboristlaw54_PrettydocJoins_v0.j0])
  | succ kj3 =>
   have H := HA.out
   clear HA
   simp only [arboristlaw54_PrettydocJoins_v0.j0] at H
   by_cases c38 : x33_3 = true
   ·subst c38
    have H1 : ((arboristlaw54_knows.f kj3).bind fun t381 => (some t381)) = some r := by rw [if_pos rfl] at H; exact H
    clear H
    have H := H1
    clear H1
    replace H := Option.bind_eq_some_iff.mp H
    obtain ⟨t381, A390, H⟩ := H
    replace H : (some t381) = some r := H
    have A39 := Aside0.mk A390
    clear A390
    obtain rfl := Option.some.inj H
    go_wp2_with (first | ((with_reducible refine gate_callee (f := 10) rfl ?_); refine goesL_ (some 34) rfl rfl Try.func10 (by kernel_rfl) rfl #[] rfl (by (try simp only [List.map_toArray, List.map_cons, List.map_nil]); first | done | rfl | (simp only [List.length_drop, List.length_take]; rfl)) ?_; (with_reducible refine (arboristlaw54_knows.calls kj3  t381 _ A39.out).mono ?_); rintro e w40 ⟨rfl, hb⟩; refine ⟨_, rfl, ?_⟩; have n0_ := Aside0.mk (Kd.V_below (Kd.V_t HO_376003.out) hb); have n1_ := Aside0.mk (Kd.V_below (Kd.V_t HO_377003.out) hb); have n2_ := Aside0.mk (blk_below (bT BK375.out) hb); have n3_ := Aside0.mk (blk_below (bT BK376.out) hb); have n4_ := Aside0.mk (below_step (by repeat (with_reducible first | exact HB.out | apply below_alloc | apply pw_below_drewN | apply below_drew1 | refine below_set ?_ GE375.out | refine below_set ?_ GE376.out)) hb); clear HO_376003; clear HO_377003; clear BK375; clear BK376; clear HB; have HO_376003 := n0_; have HO_377003 := n1_; have BK375 := n2_; have BK376 := n3_; have HB := n4_; clear n0_ n1_ n2_ n3_ n4_; (try clear hb); (try clear hb2); (try clear hk); (try clear hi)))
    go_ret
    exact ⟨by first | rfl | (simp [errW_none, errW_some] <;> rfl) | (simp [*, errW_none, errW_some] <;> rfl), by repeat (with_reducible first | exact HB.out | apply below_alloc | apply pw_below_drewN | apply below_drew1 | refine below_set ?_ GE375.out | refine below_set ?_ GE376.out)⟩
   ·replace c38 := Bool.eq_false_iff.mpr c38
    subst c38
    have H1 : (none) = some r := by rw [if_neg (show ¬ (false = true) by decide)] at H; exact H
    clear H
    have H := H1
    clear H1
    exact absurd H (by simp)

end Go.Proofs.Ytcmhffjcicolcaa.PA
