-- WRITTEN BY pp.py out of the translation; Lean checks it.
import Derived.Test.YtcmhffjcicolcaaPAx0
import Derived.Test.YtcmhffjcicolcaaPAx1
import Derived.Test.YtcmhffjcicolcaaPAx4
import Derived.Test.YtcmhffjcicolcaaPAx5
import Derived.Test.YtcmhffjcicolcaaPAx7
import Derived.Test.YtcmhffjcicolcaaPAx8
import Derived.Test.YtcmhffjcicolcaaPAx10
import Derived.Test.YtcmhffjcicolcaaPAx22
import Derived.Test.YtcmhffjcicolcaaPAx24
import Derived.Test.YtcmhffjcicolcaaPAx25
namespace Go.Proofs.Ytcmhffjcicolcaa.PA
open Go.RowKit Go.Proofs.YtcmhffjcicolcaaW.PrintWords Go.Proofs.YtcmhffjcicolcaaW.PrintLast Go.Proofs.YtcmhffjcicolcaaW.PrintMore
attribute [local go_sem] max2_int min2_int max_two min_two max_three min_three max_four min_four   -- for this text's walks alone
set_option linter.unusedVariables false
set_option linter.unusedSimpArgs false

/-! ### arboristlaw54_PrettydocJoins_v2: function 8 -/
mutual
def arboristlaw54_PrettydocJoins_v2.j0 : Nat → Int → Bool → Int → ByteArray → Int → List (S25) → Int → ByteArray → Int → List (S25) → Option (Bool)
 | 0, _, _, _, _, _, _, _, _, _, _ => none
 | k + 1, x2, x33, x578000, x578001, x578002, x578003, x579000, x579001, x579002, x579003 => if x33 = true then (none) else ((prettydoc_Cat.f k (([(⟨x578000, x578001, x578002, x578003⟩ : S25), (⟨x579000, x579001, x579002, x579003⟩ : S25)] : List (S25)))).bind fun bt587 => ((prettydoc_Right.f k bt587.1 bt587.2.1 bt587.2.2.1 bt587.2.2.2).bind fun t594 => (if t594 = 0 then ((prettydoc_Flat.f k x578000 x578001 x578002 x578003).bind fun bt599 => ((prettydoc_Flat.f k x579000 x579001 x579002 x579003).bind fun bt601 => ((prettydoc_Flat.f k bt587.1 bt587.2.1 bt587.2.2.1 bt587.2.2.2).bind fun bt603 => ((prettydoc_Nest.f k (Int.tmod (wrap64 (x2)) 100) x578000 x578001 x578002 x578003).bind fun bt605 => ((prettydoc_Group.f k bt605.1 bt605.2.1 bt605.2.2.1 bt605.2.2.2).bind fun bt611 => ((prettydoc_Flat.f k bt611.1 bt611.2.1 bt611.2.2.1 bt611.2.2.2).bind fun bt617 => (if bt599.2 = true then (if (bt603.2 != bt601.2) = true then (none) else (if bt603.2 = true then (if bt599.1.size + bt601.1.size ≤ 9223372036854775807 then (if bt603.1.toList = (bt599.1 ++ bt601.1).toList then ((prettydoc_Nest.f k 1 x578000 x578001 x578002 x578003).bind fun bt619 => ((prettydoc_Group.f k bt619.1 bt619.2.1 bt619.2.2.1 bt619.2.2.2).bind fun bt625 => ((prettydoc_Right.f k bt625.1 bt625.2.1 bt625.2.2.1 bt625.2.2.2).bind fun t631 => (if t631 = 0 then (if (bt617.2 != bt599.2) = true then (none) else (arboristlaw54_PrettydocJoins_v2.j1 k (bt617.1.toList != bt599.1.toList) x578000 x578001 x578002 x578003 x579000 x579001 x579002 x579003 bt587.1 bt587.2.1 bt587.2.2.1 bt587.2.2.2)) else (arboristlaw54_PrettydocJoins_v2.j1 k false x578000 x578001 x578002 x578003 x579000 x579001 x579002 x579003 bt587.1 bt587.2.1 bt587.2.2.1 bt587.2.2.2))))) else (none)) else (none)) else ((prettydoc_Nest.f k 1 x578000 x578001 x578002 x578003).bind fun bt632 => ((prettydoc_Group.f k bt632.1 bt632.2.1 bt632.2.2.1 bt632.2.2.2).bind fun bt638 => ((prettydoc_Right.f k bt638.1 bt638.2.1 bt638.2.2.1 bt638.2.2.2).bind fun t644 => (if t644 = 0 then (if (bt617.2 != bt599.2) = true then (none) else (arboristlaw54_PrettydocJoins_v2.j1 k (bt617.1.toList != bt599.1.toList) x578000 x578001 x578002 x578003 x579000 x579001 x579002 x579003 bt587.1 bt587.2.1 bt587.2.2.1 bt587.2.2.2)) else (arboristlaw54_PrettydocJoins_v2.j1 k false x578000 x578001 x578002 x578003 x579000 x579001 x579002 x579003 bt587.1 bt587.2.1 bt587.2.2.1 bt587.2.2.2))))))) else (if (bt603.2 != false) = true then (none) else (if bt603.2 = true then (none) else ((prettydoc_Nest.f k 1 x578000 x578001 x578002 x578003).bind fun bt658 => ((prettydoc_Group.f k bt658.1 bt658.2.1 bt658.2.2.1 bt658.2.2.2).bind fun bt664 => ((prettydoc_Right.f k bt664.1 bt664.2.1 bt664.2.2.1 bt664.2.2.2).bind fun t670 => (if t670 = 0 then (if (bt617.2 != bt599.2) = true then (none) else (arboristlaw54_PrettydocJoins_v2.j1 k (bt617.1.toList != bt599.1.toList) x578000 x578001 x578002 x578003 x579000 x579001 x579002 x579003 bt587.1 bt587.2.1 bt587.2.2.1 bt587.2.2.2)) else (arboristlaw54_PrettydocJoins_v2.j1 k false x578000 x578001 x578002 x578003 x579000 x579001 x579002 x579003 bt587.1 bt587.2.1 bt587.2.2.1 bt587.2.2.2)))))))))))))) else (none))))
def arboristlaw54_PrettydocJoins_v2.j1 : Nat → Bool → Int → ByteArray → Int → List (S25) → Int → ByteArray → Int → List (S25) → Int → ByteArray → Int → List (S25) → Option (Bool)
 | 0, _, _, _, _, _, _, _, _, _, _, _, _, _ => none
 | k + 1, x110, x578000, x578001, x578002, x578003, x579000, x579001, x579002, x579003, x594000, x594001, x594002, x594003 => if x110 = true then (none) else ((prettydoc_Size.f k x594000 x594001 x594002 x594003).bind fun t671 => ((prettydoc_Size.f k x578000 x578001 x578002 x578003).bind fun t672 => ((prettydoc_Size.f k x579000 x579001 x579002 x579003).bind fun t673 => (if t671 = (wrap64 ((wrap64 (1 + t672)) + t673)) then ((prettydoc_Groups.f k x594000 x594001 x594002 x594003).bind fun t674 => ((prettydoc_Groups.f k x578000 x578001 x578002 x578003).bind fun t675 => ((prettydoc_Groups.f k x579000 x579001 x579002 x579003).bind fun t676 => (if t674 = (wrap64 (t675 + t676)) then ((arboristlaw54_knows.f k).bind fun t677 => (some t677)) else (none))))) else (none)))))
end
def arboristlaw54_PrettydocJoins_v2.f (k : Nat) (a0_0 : Int) (a0_1 : ByteArray) (a0_2 : Int) (l0_3 : List (S25)) (a1_0 : Int) (a1_1 : ByteArray) (a1_2 : Int) (l1_3 : List (S25)) (a2 : Int) : Option (Bool) := (arboristref54_Few.f k a0_0 a0_1 a0_2 l0_3 300).bind fun t579 => (if t579 = true then ((arboristref54_Few.f k a1_0 a1_1 a1_2 l1_3 300).bind fun t580 => (if t580 = true then ((prettydoc_Right.f k a0_0 a0_1 a0_2 l0_3).bind fun t581 => (if t581 = 0 then ((prettydoc_Right.f k a1_0 a1_1 a1_2 l1_3).bind fun t582 => (arboristlaw54_PrettydocJoins_v2.j0 k a2 (t582 != 0) a0_0 a0_1 a0_2 l0_3 a1_0 a1_1 a1_2 l1_3)) else (none))) else (none))) else (none))
theorem arboristlaw54_PrettydocJoins_v2.mono_l : ∀ k, (∀ y0 y1 y2 y3 y4 y5 y6 y7 y8 y9, LeO (arboristlaw54_PrettydocJoins_v2.j0 k y0 y1 y2 y3 y4 y5 y6 y7 y8 y9) (arboristlaw54_PrettydocJoins_v2.j0 (k + 1) y0 y1 y2 y3 y4 y5 y6 y7 y8 y9)) ∧ (∀ y0 y1 y2 y3 y4 y5 y6 y7 y8 y9 y10 y11 y12, LeO (arboristlaw54_PrettydocJoins_v2.j1 k y0 y1 y2 y3 y4 y5 y6 y7 y8 y9 y10 y11 y12) (arboristlaw54_PrettydocJoins_v2.j1 (k + 1) y0 y1 y2 y3 y4 y5 y6 y7 y8 y9 y10 y11 y12))
 | 0 => ⟨fun _ _ _ _ _ _ _ _ _ _ r h => by simp [arboristlaw54_PrettydocJoins_v2.j0] at h, fun _ _ _ _ _ _ _ _ _ _ _ _ _ r h => by simp [arboristlaw54_PrettydocJoins_v2.j1] at h⟩
 | k + 1 => by
  obtain ⟨ih0, ih1⟩ := arboristlaw54_PrettydocJoins_v2.mono_l k
  refine ⟨?_, ?_⟩
  ·intro y0 y1 y2 y3 y4 y5 y6 y7 y8 y9
   unfold arboristlaw54_PrettydocJoins_v2.j0
   repeat' first
   | (with_reducible exact ih0 _ _ _ _ _ _ _ _ _ _)
   | (with_reducible exact ih1 _ _ _ _ _ _ _ _ _ _ _ _ _)
   | (with_reducible exact arboristlaw54_knows.mono _)
   | (with_reducible exact arboristref54_Few.mono _ _ _ _ _ _)
   | (with_reducible exact prettydoc_Cat.mono _ _)
   | (with_reducible exact prettydoc_Flat.mono _ _ _ _ _)
   | (with_reducible exact prettydoc_Group.mono _ _ _ _ _)
   | (with_reducible exact prettydoc_Groups.mono _ _ _ _ _)
   | (with_reducible exact prettydoc_Nest.mono _ _ _ _ _ _)
   | (with_reducible exact prettydoc_Right.mono _ _ _ _ _)
   | (with_reducible exact prettydoc_Size.mono _ _ _ _ _)
   | (with_reducible exact LeO.refl _)
   | (with_reducible exact LeO.none _)
   | (with_reducible refine LeO.ite ?_ ?_)
   | (with_reducible refine LeO.bind ?_ (fun _ => ?_))
   | exact ih0 _ _ _ _ _ _ _ _ _ _
   | exact ih1 _ _ _ _ _ _ _ _ _ _ _ _ _
   | exact arboristlaw54_knows.mono _
   | exact arboristref54_Few.mono _ _ _ _ _ _
   | exact prettydoc_Cat.mono _ _
   | exact prettydoc_Flat.mono _ _ _ _ _
   | exact prettydoc_Group.mono _ _ _ _ _
   | exact prettydoc_Groups.mono _ _ _ _ _
   | exact prettydoc_Nest.mono _ _ _ _ _ _
   | exact prettydoc_Right.mono _ _ _ _ _
   | exact prettydoc_Size.mono _ _ _ _ _
   | exact LeO.none _
   | refine LeO.ite ?_ ?_
   | refine LeO.bind ?_ (fun _ => ?_)
  ·intro y0 y1 y2 y3 y4 y5 y6 y7 y8 y9 y10 y11 y12
   unfold arboristlaw54_PrettydocJoins_v2.j1
   repeat' first
   | (with_reducible exact ih0 _ _ _ _ _ _ _ _ _ _)
   | (with_reducible exact ih1 _ _ _ _ _ _ _ _ _ _ _ _ _)
   | (with_reducible exact arboristlaw54_knows.mono _)
   | (with_reducible exact arboristref54_Few.mono _ _ _ _ _ _)
   | (with_reducible exact prettydoc_Cat.mono _ _)
   | (with_reducible exact prettydoc_Flat.mono _ _ _ _ _)
   | (with_reducible exact prettydoc_Group.mono _ _ _ _ _)
   | (with_reducible exact prettydoc_Groups.mono _ _ _ _ _)
   | (with_reducible exact prettydoc_Nest.mono _ _ _ _ _ _)
   | (with_reducible exact prettydoc_Right.mono _ _ _ _ _)
   | (with_reducible exact prettydoc_Size.mono _ _ _ _ _)
   | (with_reducible exact LeO.refl _)
   | (with_reducible exact LeO.none _)
   | (with_reducible refine LeO.ite ?_ ?_)
   | (with_reducible refine LeO.bind ?_ (fun _ => ?_))
   | exact ih0 _ _ _ _ _ _ _ _ _ _
   | exact ih1 _ _ _ _ _ _ _ _ _ _ _ _ _
   | exact arboristlaw54_knows.mono _
   | exact arboristref54_Few.mono _ _ _ _ _ _
   | exact prettydoc_Cat.mono _ _
   | exact prettydoc_Flat.mono _ _ _ _ _
   | exact prettydoc_Group.mono _ _ _ _ _
   | exact prettydoc_Groups.mono _ _ _ _ _
   | exact prettydoc_Nest.mono _ _ _ _ _ _
   | exact prettydoc_Right.mono _ _ _ _ _
   | exact prettydoc_Size.mono _ _ _ _ _
   | exact LeO.none _
   | refine LeO.ite ?_ ?_
   | refine LeO.bind ?_ (fun _ => ?_)
theorem arboristlaw54_PrettydocJoins_v2.mono : ∀ a0 a1 a2 a3 a4 a5 a6 a7 a8 k, LeO (arboristlaw54_PrettydocJoins_v2.f k a0 a1 a2 a3 a4 a5 a6 a7 a8) (arboristlaw54_PrettydocJoins_v2.f (k + 1) a0 a1 a2 a3 a4 a5 a6 a7 a8) := by
 intro a0 a1 a2 a3 a4 a5 a6 a7 a8 k
 obtain ⟨ih0, ih1⟩ := arboristlaw54_PrettydocJoins_v2.mono_l k
 unfold arboristlaw54_PrettydocJoins_v2.f
 repeat' first
   | (with_reducible exact ih0 _ _ _ _ _ _ _ _ _ _)
   | (with_reducible exact ih1 _ _ _ _ _ _ _ _ _ _ _ _ _)
   | (with_reducible exact arboristlaw54_knows.mono _)
   | (with_reducible exact arboristref54_Few.mono _ _ _ _ _ _)
   | (with_reducible exact prettydoc_Cat.mono _ _)
   | (with_reducible exact prettydoc_Flat.mono _ _ _ _ _)
   | (with_reducible exact prettydoc_Group.mono _ _ _ _ _)
   | (with_reducible exact prettydoc_Groups.mono _ _ _ _ _)
   | (with_reducible exact prettydoc_Nest.mono _ _ _ _ _ _)
   | (with_reducible exact prettydoc_Right.mono _ _ _ _ _)
   | (with_reducible exact prettydoc_Size.mono _ _ _ _ _)
   | (with_reducible exact LeO.refl _)
   | (with_reducible exact LeO.none _)
   | (with_reducible refine LeO.ite ?_ ?_)
   | (with_reducible refine LeO.bind ?_ (fun _ => ?_))
   | exact ih0 _ _ _ _ _ _ _ _ _ _
   | exact ih1 _ _ _ _ _ _ _ _ _ _ _ _ _
   | exact arboristlaw54_knows.mono _
   | exact arboristref54_Few.mono _ _ _ _ _ _
   | exact prettydoc_Cat.mono _ _
   | exact prettydoc_Flat.mono _ _ _ _ _
   | exact prettydoc_Group.mono _ _ _ _ _
   | exact prettydoc_Groups.mono _ _ _ _ _
   | exact prettydoc_Nest.mono _ _ _ _ _ _
   | exact prettydoc_Right.mono _ _ _ _ _
   | exact prettydoc_Size.mono _ _ _ _ _
   | exact LeO.none _
   | refine LeO.ite ?_ ?_
   | refine LeO.bind ?_ (fun _ => ?_)
def arboristlaw54_PrettydocJoins_v2.T12 : Bool × List (List Nat × List Nat) := (true, [([], []), ([0], [0]), ([], []), ([2, 1], [2]), ([3], [3]), ([], []), ([5, 3], [5]), ([4, 6], [4, 6]), ([1, 7], [1, 7]), ([8, 6], [8]), ([9], [9]), ([10, 9, 9], [9, 10]), ([9], [9]), ([12, 11, 9], [9, 12]), ([9], [9]), ([14, 13, 9], [9, 14]), ([13, 15, 9], [9, 13, 15]), ([11, 16, 9], [9, 11, 16]), ([9, 17], [9, 17]), ([18, 15], [18]), ([19, 19], [19]), ([19, 20], [19, 20]), ([21, 20, 0, 1, 2, 3, 4, 5, 6, 7, 8, 9, 10, 11, 12, 13, 14, 15, 16, 17, 18, 19, 20, 21], [21])])
def arboristlaw54_PrettydocJoins_v2.B12 : List Nat := [0, 1, 0, 7, 15, 0, 47, 127, 255, 511, 1023, 2047, 1023, 8191, 1023, 32767, 65535, 131071, 262143, 524287, 1048575, 2097151, 4194303]
theorem arboristlaw54_PrettydocJoins_v2.tab12 : rtab .any (opsOf Try.f8 12) = arboristlaw54_PrettydocJoins_v2.T12 := by kernel_rfl
theorem arboristlaw54_PrettydocJoins_v2.bits12 : waitsOk arboristlaw54_PrettydocJoins_v2.T12.2 arboristlaw54_PrettydocJoins_v2.B12 = true := by kernel_rfl
set_option maxHeartbeats 8000000 in
set_option maxRecDepth 100000 in
theorem arboristlaw54_PrettydocJoins_v2.calls (k : Nat) (a0_0 : Int) (a0_1 : ByteArray) (a0_2 : Int) (P0_3_ : Nat → Prop) (A0_3 : Option Addr) (c0_3 : Nat) (l0_3 : List (S25)) (a1_0 : Int) (a1_1 : ByteArray) (a1_2 : Int) (P1_3_ : Nat → Prop) (A1_3 : Option Addr) (c1_3 : Nat) (l1_3 : List (S25)) (a2 : Int) (r : Bool) (w : World) (hs0_3 : Kd.V k25 25 w w.heap.size (fun k_ => P0_3_ k_) (.slice A0_3 l0_3.length c0_3) l0_3) (hs1_3 : Kd.V k25 25 w w.heap.size (fun k_ => P1_3_ k_) (.slice A1_3 l1_3.length c1_3) l1_3) (h : arboristlaw54_PrettydocJoins_v2.f k a0_0 a0_1 a0_2 l0_3 a1_0 a1_1 a1_2 l1_3 a2 = some r) :
  Calls Try.prog 8 #[.agg #[.int .i64 a0_0, .string a0_1, .int .i64 a0_2, .slice A0_3 l0_3.length c0_3], .agg #[.int .i64 a1_0, .string a1_1, .int .i64 a1_2, .slice A1_3 l1_3.length c1_3], .int .u8 a2] w fun e w' => e = .returned (.bool r) ∧ Below w.heap.size w w' := by
 have hu25 := Try.underlying25
 have HO0_3 := Aside0.mk (show Kd.V k25 25 w w.heap.size (fun k_ => ((P0_3_ k_ ∨ P1_3_ k_) ∨ w.heap.size ≤ k_)) (.slice A0_3 l0_3.length c0_3) l0_3 from Kd.V_mono hs0_3 (fun k_ hk => .inl (.inl hk)))
 have HO1_3 := Aside0.mk (show Kd.V k25 25 w w.heap.size (fun k_ => ((P0_3_ k_ ∨ P1_3_ k_) ∨ w.heap.size ≤ k_)) (.slice A1_3 l1_3.length c1_3) l1_3 from Kd.V_mono hs1_3 (fun k_ hk => .inl (.inr hk)))
 have HB := Aside0.mk (Below.refl w.heap.size w)
 have H : ((arboristref54_Few.f k a0_0 a0_1 a0_2 l0_3 300).bind fun t579 => (if t579 = true then ((arboristref54_Few.f k a1_0 a1_1 a1_2 l1_3 300).bind fun t580 => (if t580 = true then ((prettydoc_Right.f k a0_0 a0_1 a0_2 l0_3).bind fun t581 => (if t581 = 0 then ((prettydoc_Right.f k a1_0 a1_1 a1_2 l1_3).bind fun t582 => (arboristlaw54_PrettydocJoins_v2.j0 k a2 (t582 != 0) a0_0 a0_1 a0_2 l0_3 a1_0 a1_1 a1_2 l1_3)) else (none))) else (none))) else (none))) = some r := h
 clear h
 have HC4 := Aside0.mk H
 clear H
 go_enter Try.func8, Try.ntmps8
 go_upto_region 1 with (first | ((with_reducible refine gate_dst (N := 3) rfl ?_); refine box_event ?hg (N := 3) ?hd (cs := #[.int .i64 a0_0, .string a0_1, .int .i64 a0_2, .slice A0_3 l0_3.length c0_3]) (t := 25) ?hr ?_; (case hd => rfl); (case hg => rfl); (case hr => first | (go_simp; done) | (go_simp; rfl)); intro gb577 hg w5 hbox hb; have n0_ := Aside0.mk (Kd.V_below (Kd.V_elderB (Kd.V_t HO0_3.out) gb577 (Nat.le_of_eq hg.symm)) hb); have n1_ := Aside0.mk (Kd.V_below (Kd.V_elderB (Kd.V_t HO1_3.out) gb577 (Nat.le_of_eq hg.symm)) hb); have n2_ := Aside0.mk (below_step (hB_t HB.out) hb); have n3_ := Aside0.mk (hbox); have n4_ := Aside0.mk ((by rw [hg]; exact (below_size (hB_t HB.out)) : w.heap.size ≤ gb577)); have n5_ := Aside0.mk ((by rw [hg]; exact (below_size (hB_t HB.out)) : w.heap.size ≤ gb577)); clear HO0_3; clear HO1_3; clear HB; have HO0_3 := n0_; have HO1_3 := n1_; have HB := n2_; have BK577 := n3_; have GW577 := n4_; have GE577 := n5_; clear n0_ n1_ n2_ n3_ n4_ n5_; clear hb hbox hg) | ((with_reducible refine gate_dst (N := 4) rfl ?_); refine box_event ?hg (N := 4) ?hd (cs := #[.int .i64 a1_0, .string a1_1, .int .i64 a1_2, .slice A1_3 l1_3.length c1_3]) (t := 25) ?hr ?_; (case hd => rfl); (case hg => rfl); (case hr => first | (go_simp; done) | (go_simp; rfl)); intro gb578 hg w6 hbox hb; have n0_ := Aside0.mk (Kd.V_below (Kd.V_elderB (Kd.V_t HO0_3.out) gb578 (Nat.le_of_eq hg.symm)) hb); have n1_ := Aside0.mk (Kd.V_below (Kd.V_elderB (Kd.V_t HO1_3.out) gb578 (Nat.le_of_eq hg.symm)) hb); have n2_ := Aside0.mk (blk_below (bT BK577.out) hb); have n3_ := Aside0.mk (below_step (by repeat (with_reducible first | exact HB.out | apply below_alloc | apply pw_below_drewN | apply below_drew1 | refine below_set ?_ GE577.out)) hb); have n4_ := Aside0.mk (hbox); have n5_ := Aside0.mk ((by rw [hg]; exact (below_size (by repeat (with_reducible first | exact HB.out | apply below_alloc | apply pw_below_drewN | apply below_drew1 | refine below_set ?_ GE577.out))) : w.heap.size ≤ gb578)); have n6_ := Aside0.mk ((by rw [hg]; exact (below_size (by repeat (with_reducible first | exact HB.out | apply below_alloc | apply pw_below_drewN | apply below_drew1 | refine below_set ?_ GE577.out))) : w.heap.size ≤ gb578)); have n7_ := Aside0.mk ((by rw [hg]; exact Nat.ne_of_lt (blk_lt (bT BK577.out)) : gb577 ≠ gb578)); have n8_ := Aside0.mk ((by rw [hg]; exact Nat.ne_of_gt (blk_lt (bT BK577.out)) : gb578 ≠ gb577)); clear HO0_3; clear HO1_3; clear BK577; clear HB; have HO0_3 := n0_; have HO1_3 := n1_; have BK577 := n2_; have HB := n3_; have BK578 := n4_; have GW578 := n5_; have GE578 := n6_; have NB577_578 := n7_; have NB578_577 := n8_; clear n0_ n1_ n2_ n3_ n4_ n5_ n6_ n7_ n8_; clear hb hbox hg))
 (try simp only [Act.put, List.setIfInBounds_toArray, List.set_cons_zero, List.set_cons_succ])
 go_cut [33] (fun v33 wc => ∃ (kq : Nat) (x33_3 : Bool), v33 = .bool x33_3 ∧ Aside0 (arboristlaw54_PrettydocJoins_v2.j0 kq a2 x33_3 a0_0 a0_1 a0_2 l0_3 a1_0 a1_1 a1_2 l1_3 = some r) ∧ Aside0 (kq ≤ k) ∧ Aside0 (Kd.V k25 25 wc w.heap.size (fun k_ => ((P0_3_ k_ ∨ P1_3_ k_) ∨ w.heap.size ≤ k_) ∧ k_ ≠ gb577 ∧ k_ ≠ gb578) (.slice A0_3 l0_3.length c0_3) l0_3) ∧ Aside0 (Kd.V k25 25 wc w.heap.size (fun k_ => ((P0_3_ k_ ∨ P1_3_ k_) ∨ w.heap.size ≤ k_) ∧ k_ ≠ gb577 ∧ k_ ≠ gb578) (.slice A1_3 l1_3.length c1_3) l1_3) ∧ Aside0 (wc.heap[gb577]? = some (.cells #[.int .i64 a0_0, .string a0_1, .int .i64 a0_2, (.slice A0_3 l0_3.length c0_3)] 25 (0, 0))) ∧ Aside0 (wc.heap[gb578]? = some (.cells #[.int .i64 a1_0, .string a1_1, .int .i64 a1_2, (.slice A1_3 l1_3.length c1_3)] 25 (0, 0))) ∧ Aside0 (Below w.heap.size w wc))
 case first =>
  have H := HC4.out
  clear HC4
  replace H := Option.bind_eq_some_iff.mp H
  obtain ⟨t579, A70, H⟩ := H
  replace H : (if t579 = true then ((arboristref54_Few.f k a1_0 a1_1 a1_2 l1_3 300).bind fun t580 => (if t580 = true then ((prettydoc_Right.f k a0_0 a0_1 a0_2 l0_3).bind fun t581 => (if t581 = 0 then ((prettydoc_Right.f k a1_0 a1_1 a1_2 l1_3).bind fun t582 => (arboristlaw54_PrettydocJoins_v2.j0 k a2 (t582 != 0) a0_0 a0_1 a0_2 l0_3 a1_0 a1_1 a1_2 l1_3)) else (none))) else (none))) else (none)) = some r := H
  have A7 := Aside0.mk A70
  clear A70
  by_cases c8 : t579 = true
  ·subst c8
   have H1 : ((arboristref54_Few.f k a1_0 a1_1 a1_2 l1_3 300).bind fun t580 => (if t580 = true then ((prettydoc_Right.f k a0_0 a0_1 a0_2 l0_3).bind fun t581 => (if t581 = 0 then ((prettydoc_Right.f k a1_0 a1_1 a1_2 l1_3).bind fun t582 => (arboristlaw54_PrettydocJoins_v2.j0 k a2 (t582 != 0) a0_0 a0_1 a0_2 l0_3 a1_0 a1_1 a1_2 l1_3)) else (none))) else (none))) = some r := by rw [if_pos rfl] at H; exact H
   clear H
   have H := H1
   clear H1
   replace H := Option.bind_eq_some_iff.mp H
   obtain ⟨t580, A90, H⟩ := H
   replace H : (if t580 = true then ((prettydoc_Right.f k a0_0 a0_1 a0_2 l0_3).bind fun t581 => (if t581 = 0 then ((prettydoc_Right.f k a1_0 a1_1 a1_2 l1_3).bind fun t582 => (arboristlaw54_PrettydocJoins_v2.j0 k a2 (t582 != 0) a0_0 a0_1 a0_2 l0_3 a1_0 a1_1 a1_2 l1_3)) else (none))) else (none)) = some r := H
   have A9 := Aside0.mk A90
   clear A90
   by_cases c10 : t580 = true
   ·subst c10
    have H1 : ((prettydoc_Right.f k a0_0 a0_1 a0_2 l0_3).bind fun t581 => (if t581 = 0 then ((prettydoc_Right.f k a1_0 a1_1 a1_2 l1_3).bind fun t582 => (arboristlaw54_PrettydocJoins_v2.j0 k a2 (t582 != 0) a0_0 a0_1 a0_2 l0_3 a1_0 a1_1 a1_2 l1_3)) else (none))) = some r := by rw [if_pos rfl] at H; exact H
    clear H
    have H := H1
    clear H1
    replace H := Option.bind_eq_some_iff.mp H
    obtain ⟨t581, A110, H⟩ := H
    replace H : (if t581 = 0 then ((prettydoc_Right.f k a1_0 a1_1 a1_2 l1_3).bind fun t582 => (arboristlaw54_PrettydocJoins_v2.j0 k a2 (t582 != 0) a0_0 a0_1 a0_2 l0_3 a1_0 a1_1 a1_2 l1_3)) else (none)) = some r := H
    have A11 := Aside0.mk A110
    clear A110
    by_cases c12 : t581 = 0
    ·rw [if_pos c12] at H
     have c12b0 : (t581 == 0) = true := beq_iff_eq.mpr c12
     have c12b1 : (t581 != 0) = false := bne_eq_false_iff_eq.mpr c12
     clear c12
     (first | rw [c12b0] | (simp only [i64_w, i32_w]; rw [c12b0]) | skip)
     replace H := Option.bind_eq_some_iff.mp H
     obtain ⟨t582, A130, H⟩ := H
     replace H : (arboristlaw54_PrettydocJoins_v2.j0 k a2 (t582 != 0) a0_0 a0_1 a0_2 l0_3 a1_0 a1_1 a1_2 l1_3) = some r := H
     have A13 := Aside0.mk A130
     clear A130
     have H' := Aside0.mk H
     clear H
     have hnb14 := NB577_578.out
     have hnc14 := NB578_577.out
     have hcz15_0 : w6.cell? ⟨gb577, 0, none⟩ = some (.int .i64 a0_0) := (blk_cell BK577.out 0).trans rfl
     have hcz15_1 : w6.cell? ⟨gb577, 1, none⟩ = some (.string a0_1) := (blk_cell BK577.out 1).trans rfl
     have hcz15_2 : w6.cell? ⟨gb577, 2, none⟩ = some (.int .i64 a0_2) := (blk_cell BK577.out 2).trans rfl
     have hcz15_3 : w6.cell? ⟨gb577, 3, none⟩ = some (.slice A0_3 l0_3.length c0_3) := (blk_cell BK577.out 3).trans rfl
     have hfz15_0 := blk_frozen BK577.out 0
     have hfz15_1 := blk_frozen BK577.out 1
     have hfz15_2 := blk_frozen BK577.out 2
     have hfz15_3 := blk_frozen BK577.out 3
     go_wp2_with (first | ((with_reducible refine gate_callee (f := 9) rfl ?_); refine goesL_ (some 17) rfl rfl Try.func9 (by kernel_rfl) rfl #[.agg #[.int .i64 a0_0, .string a0_1, .int .i64 a0_2, .slice A0_3 l0_3.length c0_3], .int .i64 300] rfl (by (try simp only [List.map_toArray, List.map_cons, List.map_nil]); first | done | rfl | (simp only [List.length_drop, List.length_take]; rfl)) ?_; (with_reducible refine (arboristref54_Few.calls k a0_0 a0_1 a0_2 _ _ l0_3 300 true _ ?side1 ?side2 A7.out).mono ?_); (case side1 => repeat (first | exact (Kd.V_reads' HO0_3.out).2.2 | (with_reducible refine Kd.C_alloc ?_ _) | (with_reducible refine Kd.C_drewN ?_ _) | (with_reducible refine Kd.C_drew ?_))); (case side2 => exact (Kd.V_reads' HO0_3.out).2.1); rintro e w16 ⟨rfl, hb⟩; refine ⟨_, rfl, ?_⟩; have n0_ := Aside0.mk (Kd.V_below (Kd.V_t HO0_3.out) hb); have n1_ := Aside0.mk (Kd.V_below (Kd.V_t HO1_3.out) hb); have n2_ := Aside0.mk (blk_below (bT BK577.out) hb); have n3_ := Aside0.mk (blk_below (bT BK578.out) hb); have n4_ := Aside0.mk (below_step (by repeat (with_reducible first | exact HB.out | apply below_alloc | apply pw_below_drewN | apply below_drew1 | refine below_set ?_ GE577.out | refine below_set ?_ GE578.out)) hb); clear HO0_3; clear HO1_3; clear BK577; clear BK578; clear HB; have HO0_3 := n0_; have HO1_3 := n1_; have BK577 := n2_; have BK578 := n3_; have HB := n4_; clear n0_ n1_ n2_ n3_ n4_; (try clear hb); (try clear hb2); (try clear hk); (try clear hi); have hcz17_0 : w16.cell? ⟨gb578, 0, none⟩ = some (.int .i64 a1_0) := (blk_cell BK578.out 0).trans rfl; have hcz17_1 : w16.cell? ⟨gb578, 1, none⟩ = some (.string a1_1) := (blk_cell BK578.out 1).trans rfl; have hcz17_2 : w16.cell? ⟨gb578, 2, none⟩ = some (.int .i64 a1_2) := (blk_cell BK578.out 2).trans rfl; have hcz17_3 : w16.cell? ⟨gb578, 3, none⟩ = some (.slice A1_3 l1_3.length c1_3) := (blk_cell BK578.out 3).trans rfl; have hfz17_0 := blk_frozen BK578.out 0; have hfz17_1 := blk_frozen BK578.out 1; have hfz17_2 := blk_frozen BK578.out 2; have hfz17_3 := blk_frozen BK578.out 3) | (go_at_call 9; (with_reducible refine (arboristref54_Few.calls k a1_0 a1_1 a1_2 _ _ l1_3 300 true _ ?side1 ?side2 A9.out).mono ?_); (case side1 => repeat (first | exact (Kd.V_reads' HO1_3.out).2.2 | (with_reducible refine Kd.C_alloc ?_ _) | (with_reducible refine Kd.C_drewN ?_ _) | (with_reducible refine Kd.C_drew ?_))); (case side2 => exact (Kd.V_reads' HO1_3.out).2.1); rintro e w18 ⟨rfl, hb⟩; have n0_ := Aside0.mk (Kd.V_below (Kd.V_t HO0_3.out) hb); have n1_ := Aside0.mk (Kd.V_below (Kd.V_t HO1_3.out) hb); have n2_ := Aside0.mk (blk_below (bT BK577.out) hb); have n3_ := Aside0.mk (blk_below (bT BK578.out) hb); have n4_ := Aside0.mk (below_step (by repeat (with_reducible first | exact HB.out | apply below_alloc | apply pw_below_drewN | apply below_drew1 | refine below_set ?_ GE577.out | refine below_set ?_ GE578.out)) hb); clear HO0_3; clear HO1_3; clear BK577; clear BK578; clear HB; have HO0_3 := n0_; have HO1_3 := n1_; have BK577 := n2_; have BK578 := n3_; have HB := n4_; clear n0_ n1_ n2_ n3_ n4_; (try clear hb); (try clear hb2); (try clear hk); (try clear hi); have hcz19_0 : w18.cell? ⟨gb577, 0, none⟩ = some (.int .i64 a0_0) := (blk_cell BK577.out 0).trans rfl; have hcz19_1 : w18.cell? ⟨gb577, 1, none⟩ = some (.string a0_1) := (blk_cell BK577.out 1).trans rfl; have hcz19_2 : w18.cell? ⟨gb577, 2, none⟩ = some (.int .i64 a0_2) := (blk_cell BK577.out 2).trans rfl; have hcz19_3 : w18.cell? ⟨gb577, 3, none⟩ = some (.slice A0_3 l0_3.length c0_3) := (blk_cell BK577.out 3).trans rfl; have hfz19_0 := blk_frozen BK577.out 0; have hfz19_1 := blk_frozen BK577.out 1; have hfz19_2 := blk_frozen BK577.out 2; have hfz19_3 := blk_frozen BK577.out 3) | (go_at_call 11; (with_reducible refine (prettydoc_Right.calls k a0_0 a0_1 a0_2 _ _ l0_3 t581 _ ?side1 ?side2 A11.out).mono ?_); (case side1 => repeat (first | exact (Kd.V_reads' HO0_3.out).2.2 | (with_reducible refine Kd.C_alloc ?_ _) | (with_reducible refine Kd.C_drewN ?_ _) | (with_reducible refine Kd.C_drew ?_))); (case side2 => exact (Kd.V_reads' HO0_3.out).2.1); rintro e w20 ⟨rfl, hb⟩; have n0_ := Aside0.mk (Kd.V_below (Kd.V_t HO0_3.out) hb); have n1_ := Aside0.mk (Kd.V_below (Kd.V_t HO1_3.out) hb); have n2_ := Aside0.mk (blk_below (bT BK577.out) hb); have n3_ := Aside0.mk (blk_below (bT BK578.out) hb); have n4_ := Aside0.mk (below_step (by repeat (with_reducible first | exact HB.out | apply below_alloc | apply pw_below_drewN | apply below_drew1 | refine below_set ?_ GE577.out | refine below_set ?_ GE578.out)) hb); clear HO0_3; clear HO1_3; clear BK577; clear BK578; clear HB; have HO0_3 := n0_; have HO1_3 := n1_; have BK577 := n2_; have BK578 := n3_; have HB := n4_; clear n0_ n1_ n2_ n3_ n4_; (try clear hb); (try clear hb2); (try clear hk); (try clear hi); have hcz21_0 : w20.cell? ⟨gb578, 0, none⟩ = some (.int .i64 a1_0) := (blk_cell BK578.out 0).trans rfl; have hcz21_1 : w20.cell? ⟨gb578, 1, none⟩ = some (.string a1_1) := (blk_cell BK578.out 1).trans rfl; have hcz21_2 : w20.cell? ⟨gb578, 2, none⟩ = some (.int .i64 a1_2) := (blk_cell BK578.out 2).trans rfl; have hcz21_3 : w20.cell? ⟨gb578, 3, none⟩ = some (.slice A1_3 l1_3.length c1_3) := (blk_cell BK578.out 3).trans rfl; have hfz21_0 := blk_frozen BK578.out 0; have hfz21_1 := blk_frozen BK578.out 1; have hfz21_2 := blk_frozen BK578.out 2; have hfz21_3 := blk_frozen BK578.out 3) | (go_at_call 11; (with_reducible refine (prettydoc_Right.calls k a1_0 a1_1 a1_2 _ _ l1_3 t582 _ ?side1 ?side2 A13.out).mono ?_); (case side1 => repeat (first | exact (Kd.V_reads' HO1_3.out).2.2 | (with_reducible refine Kd.C_alloc ?_ _) | (with_reducible refine Kd.C_drewN ?_ _) | (with_reducible refine Kd.C_drew ?_))); (case side2 => exact (Kd.V_reads' HO1_3.out).2.1); rintro e w22 ⟨rfl, hb⟩; have n0_ := Aside0.mk (Kd.V_below (Kd.V_t HO0_3.out) hb); have n1_ := Aside0.mk (Kd.V_below (Kd.V_t HO1_3.out) hb); have n2_ := Aside0.mk (blk_below (bT BK577.out) hb); have n3_ := Aside0.mk (blk_below (bT BK578.out) hb); have n4_ := Aside0.mk (below_step (by repeat (with_reducible first | exact HB.out | apply below_alloc | apply pw_below_drewN | apply below_drew1 | refine below_set ?_ GE577.out | refine below_set ?_ GE578.out)) hb); clear HO0_3; clear HO1_3; clear BK577; clear BK578; clear HB; have HO0_3 := n0_; have HO1_3 := n1_; have BK577 := n2_; have BK578 := n3_; have HB := n4_; clear n0_ n1_ n2_ n3_ n4_; (try clear hb); (try clear hb2); (try clear hk); (try clear hi)))
     go_meet
     case rel => exact ⟨_, ((t582 != 0)), (by first | rfl | (simp; done) | (simp [*]; done)), H', ⟨by first | omega | exact Nat.le_refl _⟩, ⟨Kd.V_t (Kd.V_mono HO0_3.out (fun _ hk => ⟨hk.1.1, ⟨hk.1.2, hk.2⟩⟩))⟩, ⟨Kd.V_t (Kd.V_mono HO1_3.out (fun _ hk => ⟨hk.1.1, ⟨hk.1.2, hk.2⟩⟩))⟩, ⟨bT BK577.out⟩, ⟨bT BK578.out⟩, ⟨by repeat (with_reducible first | exact HB.out | apply below_alloc | apply pw_below_drewN | apply below_drew1 | refine below_set ?_ GE577.out | refine below_set ?_ GE578.out)⟩⟩
    ·rw [if_neg c12] at H
     exact absurd H (by simp)
   ·replace c10 := Bool.eq_false_iff.mpr c10
    subst c10
    have H1 : (none) = some r := by rw [if_neg (show ¬ (false = true) by decide)] at H; exact H
    clear H
    have H := H1
    clear H1
    exact absurd H (by simp)
  ·replace c8 := Bool.eq_false_iff.mpr c8
   subst c8
   have H1 : (none) = some r := by rw [if_neg (show ¬ (false = true) by decide)] at H; exact H
   clear H
   have H := H1
   clear H1
   exact absurd H (by simp)
 case rest =>
  clear HC4
  try clear c1
  try clear p2
  try clear c8
  try clear c9
  try clear c10
  try clear c12
  try clear c12b0
  try clear c12b1
  try clear c14
  try clear hcz15_0
  try clear hcz15_1
  try clear hcz15_2
  try clear hcz15_3
  try clear hcz17_0
  try clear hcz17_1
  try clear hcz17_2
  try clear hcz17_3
  try clear hcz19_0
  try clear hcz19_1
  try clear hcz19_2
  try clear hcz19_3
  try clear hcz21_0
  try clear hcz21_1
  try clear hcz21_2
  try clear hcz21_3
  try clear hfz15_0
  try clear hfz15_1
  try clear hfz15_2
  try clear hfz15_3
  try clear hfz17_0
  try clear hfz17_1
  try clear hfz17_2
  try clear hfz17_3
  try clear hfz19_0
  try clear hfz19_1
  try clear hfz19_2
  try clear hfz19_3
  try clear hfz21_0
  try clear hfz21_1
  try clear hfz21_2
  try clear hfz21_3
  try clear HJ3
  try clear HO_578003
  try clear HO_579003
  try clear BK577
  try clear BK578
  try clear HB
  obtain ⟨kq, x33_3, rfl, HA, HJ3, HO_578003, HO_579003, BK577, BK578, HB⟩ := hcut
  cases kq with
  | zero => exact absurd HA.out (by simp [arboristlaw54_PrettydocJoins_v2.j0])
  | succ kj3 =>
   have H := HA.out
   clear HA
   simp only [arboristlaw54_PrettydocJoins_v2.j0] at H
   by_cases c23 : x33_3 = true
   ·subst c23
    have H1 : (none) = some r := by rw [if_pos rfl] at H; exact H
    clear H
    have H := H1
    clear H1
    exact absurd H (by simp)
   ·replace c23 := Bool.eq_false_iff.mpr c23
    subst c23
    have H1 : ((prettydoc_Cat.f kj3 (([(⟨a0_0, a0_1, a0_2, l0_3⟩ : S25), (⟨a1_0, a1_1, a1_2, l1_3⟩ : S25)] : List (S25)))).bind fun bt587 => ((prettydoc_Right.f kj3 bt587.1 bt587.2.1 bt587.2.2.1 bt587.2.2.2).bind fun t594 => (if t594 = 0 then ((prettydoc_Flat.f kj3 a0_0 a0_1 a0_2 l0_3).bind fun bt599 => ((prettydoc_Flat.f kj3 a1_0 a1_1 a1_2 l1_3).bind fun bt601 => ((prettydoc_Flat.f kj3 bt587.1 bt587.2.1 bt587.2.2.1 bt587.2.2.2).bind fun bt603 => ((prettydoc_Nest.f kj3 (Int.tmod (wrap64 (a2)) 100) a0_0 a0_1 a0_2 l0_3).bind fun bt605 => ((prettydoc_Group.f kj3 bt605.1 bt605.2.1 bt605.2.2.1 bt605.2.2.2).bind fun bt611 => ((prettydoc_Flat.f kj3 bt611.1 bt611.2.1 bt611.2.2.1 bt611.2.2.2).bind fun bt617 => (if bt599.2 = true then (if (bt603.2 != bt601.2) = true then (none) else (if bt603.2 = true then (if bt599.1.size + bt601.1.size ≤ 9223372036854775807 then (if bt603.1.toList = (bt599.1 ++ bt601.1).toList then ((prettydoc_Nest.f kj3 1 a0_0 a0_1 a0_2 l0_3).bind fun bt619 => ((prettydoc_Group.f kj3 bt619.1 bt619.2.1 bt619.2.2.1 bt619.2.2.2).bind fun bt625 => ((prettydoc_Right.f kj3 bt625.1 bt625.2.1 bt625.2.2.1 bt625.2.2.2).bind fun t631 => (if t631 = 0 then (if (bt617.2 != bt599.2) = true then (none) else (arboristlaw54_PrettydocJoins_v2.j1 kj3 (bt617.1.toList != bt599.1.toList) a0_0 a0_1 a0_2 l0_3 a1_0 a1_1 a1_2 l1_3 bt587.1 bt587.2.1 bt587.2.2.1 bt587.2.2.2)) else (arboristlaw54_PrettydocJoins_v2.j1 kj3 false a0_0 a0_1 a0_2 l0_3 a1_0 a1_1 a1_2 l1_3 bt587.1 bt587.2.1 bt587.2.2.1 bt587.2.2.2))))) else (none)) else (none)) else ((prettydoc_Nest.f kj3 1 a0_0 a0_1 a0_2 l0_3).bind fun bt632 => ((prettydoc_Group.f kj3 bt632.1 bt632.2.1 bt632.2.2.1 bt632.2.2.2).bind fun bt638 => ((prettydoc_Right.f kj3 bt638.1 bt638.2.1 bt638.2.2.1 bt638.2.2.2).bind fun t644 => (if t644 = 0 then (if (bt617.2 != bt599.2) = true then (none) else (arboristlaw54_PrettydocJoins_v2.j1 kj3 (bt617.1.toList != bt599.1.toList) a0_0 a0_1 a0_2 l0_3 a1_0 a1_1 a1_2 l1_3 bt587.1 bt587.2.1 bt587.2.2.1 bt587.2.2.2)) else (arboristlaw54_PrettydocJoins_v2.j1 kj3 false a0_0 a0_1 a0_2 l0_3 a1_0 a1_1 a1_2 l1_3 bt587.1 bt587.2.1 bt587.2.2.1 bt587.2.2.2))))))) else (if (bt603.2 != false) = true then (none) else (if bt603.2 = true then (none) else ((prettydoc_Nest.f kj3 1 a0_0 a0_1 a0_2 l0_3).bind fun bt658 => ((prettydoc_Group.f kj3 bt658.1 bt658.2.1 bt658.2.2.1 bt658.2.2.2).bind fun bt664 => ((prettydoc_Right.f kj3 bt664.1 bt664.2.1 bt664.2.2.1 bt664.2.2.2).bind fun t670 => (if t670 = 0 then (if (bt617.2 != bt599.2) = true then (none) else (arboristlaw54_PrettydocJoins_v2.j1 kj3 (bt617.1.toList != bt599.1.toList) a0_0 a0_1 a0_2 l0_3 a1_0 a1_1 a1_2 l1_3 bt587.1 bt587.2.1 bt587.2.2.1 bt587.2.2.2)) else (arboristlaw54_PrettydocJoins_v2.j1 kj3 false a0_0 a0_1 a0_2 l0_3 a1_0 a1_1 a1_2 l1_3 bt587.1 bt587.2.1 bt587.2.2.1 bt587.2.2.2)))))))))))))) else (none)))) = some r := by rw [if_neg (show ¬ (false = true) by decide)] at H; exact H
    clear H
    have H := H1
    clear H1
    obtain ⟨y584, hy584⟩ : ∃ y_ : List (S25), y_ = (([(⟨a0_0, a0_1, a0_2, l0_3⟩ : S25), (⟨a1_0, a1_1, a1_2, l1_3⟩ : S25)] : List (S25))) := ⟨_, rfl⟩
    replace H : ((prettydoc_Cat.f kj3 y584).bind fun bt587 => ((prettydoc_Right.f kj3 bt587.1 bt587.2.1 bt587.2.2.1 bt587.2.2.2).bind fun t594 => (if t594 = 0 then ((prettydoc_Flat.f kj3 a0_0 a0_1 a0_2 l0_3).bind fun bt599 => ((prettydoc_Flat.f kj3 a1_0 a1_1 a1_2 l1_3).bind fun bt601 => ((prettydoc_Flat.f kj3 bt587.1 bt587.2.1 bt587.2.2.1 bt587.2.2.2).bind fun bt603 => ((prettydoc_Nest.f kj3 (Int.tmod (wrap64 (a2)) 100) a0_0 a0_1 a0_2 l0_3).bind fun bt605 => ((prettydoc_Group.f kj3 bt605.1 bt605.2.1 bt605.2.2.1 bt605.2.2.2).bind fun bt611 => ((prettydoc_Flat.f kj3 bt611.1 bt611.2.1 bt611.2.2.1 bt611.2.2.2).bind fun bt617 => (if bt599.2 = true then (if (bt603.2 != bt601.2) = true then (none) else (if bt603.2 = true then (if bt599.1.size + bt601.1.size ≤ 9223372036854775807 then (if bt603.1.toList = (bt599.1 ++ bt601.1).toList then ((prettydoc_Nest.f kj3 1 a0_0 a0_1 a0_2 l0_3).bind fun bt619 => ((prettydoc_Group.f kj3 bt619.1 bt619.2.1 bt619.2.2.1 bt619.2.2.2).bind fun bt625 => ((prettydoc_Right.f kj3 bt625.1 bt625.2.1 bt625.2.2.1 bt625.2.2.2).bind fun t631 => (if t631 = 0 then (if (bt617.2 != bt599.2) = true then (none) else (arboristlaw54_PrettydocJoins_v2.j1 kj3 (bt617.1.toList != bt599.1.toList) a0_0 a0_1 a0_2 l0_3 a1_0 a1_1 a1_2 l1_3 bt587.1 bt587.2.1 bt587.2.2.1 bt587.2.2.2)) else (arboristlaw54_PrettydocJoins_v2.j1 kj3 false a0_0 a0_1 a0_2 l0_3 a1_0 a1_1 a1_2 l1_3 bt587.1 bt587.2.1 bt587.2.2.1 bt587.2.2.2))))) else (none)) else (none)) else ((prettydoc_Nest.f kj3 1 a0_0 a0_1 a0_2 l0_3).bind fun bt632 => ((prettydoc_Group.f kj3 bt632.1 bt632.2.1 bt632.2.2.1 bt632.2.2.2).bind fun bt638 => ((prettydoc_Right.f kj3 bt638.1 bt638.2.1 bt638.2.2.1 bt638.2.2.2).bind fun t644 => (if t644 = 0 then (if (bt617.2 != bt599.2) = true then (none) else (arboristlaw54_PrettydocJoins_v2.j1 kj3 (bt617.1.toList != bt599.1.toList) a0_0 a0_1 a0_2 l0_3 a1_0 a1_1 a1_2 l1_3 bt587.1 bt587.2.1 bt587.2.2.1 bt587.2.2.2)) else (arboristlaw54_PrettydocJoins_v2.j1 kj3 false a0_0 a0_1 a0_2 l0_3 a1_0 a1_1 a1_2 l1_3 bt587.1 bt587.2.1 bt587.2.2.1 bt587.2.2.2))))))) else (if (bt603.2 != false) = true then (none) else (if bt603.2 = true then (none) else ((prettydoc_Nest.f kj3 1 a0_0 a0_1 a0_2 l0_3).bind fun bt658 => ((prettydoc_Group.f kj3 bt658.1 bt658.2.1 bt658.2.2.1 bt658.2.2.2).bind fun bt664 => ((prettydoc_Right.f kj3 bt664.1 bt664.2.1 bt664.2.2.1 bt664.2.2.2).bind fun t670 => (if t670 = 0 then (if (bt617.2 != bt599.2) = true then (none) else (arboristlaw54_PrettydocJoins_v2.j1 kj3 (bt617.1.toList != bt599.1.toList) a0_0 a0_1 a0_2 l0_3 a1_0 a1_1 a1_2 l1_3 bt587.1 bt587.2.1 bt587.2.2.1 bt587.2.2.2)) else (arboristlaw54_PrettydocJoins_v2.j1 kj3 false a0_0 a0_1 a0_2 l0_3 a1_0 a1_1 a1_2 l1_3 bt587.1 bt587.2.1 bt587.2.2.1 bt587.2.2.2)))))))))))))) else (none)))) = some r := by first | (rw [hy584]; with_reducible exact H) | (have H2_ := (Option.bind_some _ _).symm.trans H; rw [hy584]; with_reducible exact H2_) | (have H2_ := (Option.bind_some _ _).symm.trans H; with_reducible exact H2_) | with_reducible exact H | (rw [hy584]; exact H) | exact H
    have Ny584 := Aside0.mk hy584
    clear hy584
    replace H := Option.bind_eq_some_iff.mp H
    obtain ⟨⟨t587, t588, t589, t590⟩, A240, H⟩ := H
    replace H : ((prettydoc_Right.f kj3 t587 t588 t589 t590).bind fun t594 => (if t594 = 0 then ((prettydoc_Flat.f kj3 a0_0 a0_1 a0_2 l0_3).bind fun bt599 => ((prettydoc_Flat.f kj3 a1_0 a1_1 a1_2 l1_3).bind fun bt601 => ((prettydoc_Flat.f kj3 t587 t588 t589 t590).bind fun bt603 => ((prettydoc_Nest.f kj3 (Int.tmod (wrap64 (a2)) 100) a0_0 a0_1 a0_2 l0_3).bind fun bt605 => ((prettydoc_Group.f kj3 bt605.1 bt605.2.1 bt605.2.2.1 bt605.2.2.2).bind fun bt611 => ((prettydoc_Flat.f kj3 bt611.1 bt611.2.1 bt611.2.2.1 bt611.2.2.2).bind fun bt617 => (if bt599.2 = true then (if (bt603.2 != bt601.2) = true then (none) else (if bt603.2 = true then (if bt599.1.size + bt601.1.size ≤ 9223372036854775807 then (if bt603.1.toList = (bt599.1 ++ bt601.1).toList then ((prettydoc_Nest.f kj3 1 a0_0 a0_1 a0_2 l0_3).bind fun bt619 => ((prettydoc_Group.f kj3 bt619.1 bt619.2.1 bt619.2.2.1 bt619.2.2.2).bind fun bt625 => ((prettydoc_Right.f kj3 bt625.1 bt625.2.1 bt625.2.2.1 bt625.2.2.2).bind fun t631 => (if t631 = 0 then (if (bt617.2 != bt599.2) = true then (none) else (arboristlaw54_PrettydocJoins_v2.j1 kj3 (bt617.1.toList != bt599.1.toList) a0_0 a0_1 a0_2 l0_3 a1_0 a1_1 a1_2 l1_3 t587 t588 t589 t590)) else (arboristlaw54_PrettydocJoins_v2.j1 kj3 false a0_0 a0_1 a0_2 l0_3 a1_0 a1_1 a1_2 l1_3 t587 t588 t589 t590))))) else (none)) else (none)) else ((prettydoc_Nest.f kj3 1 a0_0 a0_1 a0_2 l0_3).bind fun bt632 => ((prettydoc_Group.f kj3 bt632.1 bt632.2.1 bt632.2.2.1 bt632.2.2.2).bind fun bt638 => ((prettydoc_Right.f kj3 bt638.1 bt638.2.1 bt638.2.2.1 bt638.2.2.2).bind fun t644 => (if t644 = 0 then (if (bt617.2 != bt599.2) = true then (none) else (arboristlaw54_PrettydocJoins_v2.j1 kj3 (bt617.1.toList != bt599.1.toList) a0_0 a0_1 a0_2 l0_3 a1_0 a1_1 a1_2 l1_3 t587 t588 t589 t590)) else (arboristlaw54_PrettydocJoins_v2.j1 kj3 false a0_0 a0_1 a0_2 l0_3 a1_0 a1_1 a1_2 l1_3 t587 t588 t589 t590))))))) else (if (bt603.2 != false) = true then (none) else (if bt603.2 = true then (none) else ((prettydoc_Nest.f kj3 1 a0_0 a0_1 a0_2 l0_3).bind fun bt658 => ((prettydoc_Group.f kj3 bt658.1 bt658.2.1 bt658.2.2.1 bt658.2.2.2).bind fun bt664 => ((prettydoc_Right.f kj3 bt664.1 bt664.2.1 bt664.2.2.1 bt664.2.2.2).bind fun t670 => (if t670 = 0 then (if (bt617.2 != bt599.2) = true then (none) else (arboristlaw54_PrettydocJoins_v2.j1 kj3 (bt617.1.toList != bt599.1.toList) a0_0 a0_1 a0_2 l0_3 a1_0 a1_1 a1_2 l1_3 t587 t588 t589 t590)) else (arboristlaw54_PrettydocJoins_v2.j1 kj3 false a0_0 a0_1 a0_2 l0_3 a1_0 a1_1 a1_2 l1_3 t587 t588 t589 t590)))))))))))))) else (none))) = some r := H
    have A24 := Aside0.mk A240
    clear A240
    replace H := Option.bind_eq_some_iff.mp H
    obtain ⟨t594, A250, H⟩ := H
    replace H : (if t594 = 0 then ((prettydoc_Flat.f kj3 a0_0 a0_1 a0_2 l0_3).bind fun bt599 => ((prettydoc_Flat.f kj3 a1_0 a1_1 a1_2 l1_3).bind fun bt601 => ((prettydoc_Flat.f kj3 t587 t588 t589 t590).bind fun bt603 => ((prettydoc_Nest.f kj3 (Int.tmod (wrap64 (a2)) 100) a0_0 a0_1 a0_2 l0_3).bind fun bt605 => ((prettydoc_Group.f kj3 bt605.1 bt605.2.1 bt605.2.2.1 bt605.2.2.2).bind fun bt611 => ((prettydoc_Flat.f kj3 bt611.1 bt611.2.1 bt611.2.2.1 bt611.2.2.2).bind fun bt617 => (if bt599.2 = true then (if (bt603.2 != bt601.2) = true then (none) else (if bt603.2 = true then (if bt599.1.size + bt601.1.size ≤ 9223372036854775807 then (if bt603.1.toList = (bt599.1 ++ bt601.1).toList then ((prettydoc_Nest.f kj3 1 a0_0 a0_1 a0_2 l0_3).bind fun bt619 => ((prettydoc_Group.f kj3 bt619.1 bt619.2.1 bt619.2.2.1 bt619.2.2.2).bind fun bt625 => ((prettydoc_Right.f kj3 bt625.1 bt625.2.1 bt625.2.2.1 bt625.2.2.2).bind fun t631 => (if t631 = 0 then (if (bt617.2 != bt599.2) = true then (none) else (arboristlaw54_PrettydocJoins_v2.j1 kj3 (bt617.1.toList != bt599.1.toList) a0_0 a0_1 a0_2 l0_3 a1_0 a1_1 a1_2 l1_3 t587 t588 t589 t590)) else (arboristlaw54_PrettydocJoins_v2.j1 kj3 false a0_0 a0_1 a0_2 l0_3 a1_0 a1_1 a1_2 l1_3 t587 t588 t589 t590))))) else (none)) else (none)) else ((prettydoc_Nest.f kj3 1 a0_0 a0_1 a0_2 l0_3).bind fun bt632 => ((prettydoc_Group.f kj3 bt632.1 bt632.2.1 bt632.2.2.1 bt632.2.2.2).bind fun bt638 => ((prettydoc_Right.f kj3 bt638.1 bt638.2.1 bt638.2.2.1 bt638.2.2.2).bind fun t644 => (if t644 = 0 then (if (bt617.2 != bt599.2) = true then (none) else (arboristlaw54_PrettydocJoins_v2.j1 kj3 (bt617.1.toList != bt599.1.toList) a0_0 a0_1 a0_2 l0_3 a1_0 a1_1 a1_2 l1_3 t587 t588 t589 t590)) else (arboristlaw54_PrettydocJoins_v2.j1 kj3 false a0_0 a0_1 a0_2 l0_3 a1_0 a1_1 a1_2 l1_3 t587 t588 t589 t590))))))) else (if (bt603.2 != false) = true then (none) else (if bt603.2 = true then (none) else ((prettydoc_Nest.f kj3 1 a0_0 a0_1 a0_2 l0_3).bind fun bt658 => ((prettydoc_Group.f kj3 bt658.1 bt658.2.1 bt658.2.2.1 bt658.2.2.2).bind fun bt664 => ((prettydoc_Right.f kj3 bt664.1 bt664.2.1 bt664.2.2.1 bt664.2.2.2).bind fun t670 => (if t670 = 0 then (if (bt617.2 != bt599.2) = true then (none) else (arboristlaw54_PrettydocJoins_v2.j1 kj3 (bt617.1.toList != bt599.1.toList) a0_0 a0_1 a0_2 l0_3 a1_0 a1_1 a1_2 l1_3 t587 t588 t589 t590)) else (arboristlaw54_PrettydocJoins_v2.j1 kj3 false a0_0 a0_1 a0_2 l0_3 a1_0 a1_1 a1_2 l1_3 t587 t588 t589 t590)))))))))))))) else (none)) = some r := H
    have A25 := Aside0.mk A250
    clear A250
    by_cases c26 : t594 = 0
    ·rw [if_pos c26] at H
     have c26b0 : (t594 == 0) = true := beq_iff_eq.mpr c26
     have c26b1 : (t594 != 0) = false := bne_eq_false_iff_eq.mpr c26
     clear c26
     replace H := Option.bind_eq_some_iff.mp H
     obtain ⟨⟨t599, t600⟩, A270, H⟩ := H
     replace H : ((prettydoc_Flat.f kj3 a1_0 a1_1 a1_2 l1_3).bind fun bt601 => ((prettydoc_Flat.f kj3 t587 t588 t589 t590).bind fun bt603 => ((prettydoc_Nest.f kj3 (Int.tmod (wrap64 (a2)) 100) a0_0 a0_1 a0_2 l0_3).bind fun bt605 => ((prettydoc_Group.f kj3 bt605.1 bt605.2.1 bt605.2.2.1 bt605.2.2.2).bind fun bt611 => ((prettydoc_Flat.f kj3 bt611.1 bt611.2.1 bt611.2.2.1 bt611.2.2.2).bind fun bt617 => (if t600 = true then (if (bt603.2 != bt601.2) = true then (none) else (if bt603.2 = true then (if t599.size + bt601.1.size ≤ 9223372036854775807 then (if bt603.1.toList = (t599 ++ bt601.1).toList then ((prettydoc_Nest.f kj3 1 a0_0 a0_1 a0_2 l0_3).bind fun bt619 => ((prettydoc_Group.f kj3 bt619.1 bt619.2.1 bt619.2.2.1 bt619.2.2.2).bind fun bt625 => ((prettydoc_Right.f kj3 bt625.1 bt625.2.1 bt625.2.2.1 bt625.2.2.2).bind fun t631 => (if t631 = 0 then (if (bt617.2 != t600) = true then (none) else (arboristlaw54_PrettydocJoins_v2.j1 kj3 (bt617.1.toList != t599.toList) a0_0 a0_1 a0_2 l0_3 a1_0 a1_1 a1_2 l1_3 t587 t588 t589 t590)) else (arboristlaw54_PrettydocJoins_v2.j1 kj3 false a0_0 a0_1 a0_2 l0_3 a1_0 a1_1 a1_2 l1_3 t587 t588 t589 t590))))) else (none)) else (none)) else ((prettydoc_Nest.f kj3 1 a0_0 a0_1 a0_2 l0_3).bind fun bt632 => ((prettydoc_Group.f kj3 bt632.1 bt632.2.1 bt632.2.2.1 bt632.2.2.2).bind fun bt638 => ((prettydoc_Right.f kj3 bt638.1 bt638.2.1 bt638.2.2.1 bt638.2.2.2).bind fun t644 => (if t644 = 0 then (if (bt617.2 != t600) = true then (none) else (arboristlaw54_PrettydocJoins_v2.j1 kj3 (bt617.1.toList != t599.toList) a0_0 a0_1 a0_2 l0_3 a1_0 a1_1 a1_2 l1_3 t587 t588 t589 t590)) else (arboristlaw54_PrettydocJoins_v2.j1 kj3 false a0_0 a0_1 a0_2 l0_3 a1_0 a1_1 a1_2 l1_3 t587 t588 t589 t590))))))) else (if (bt603.2 != false) = true then (none) else (if bt603.2 = true then (none) else ((prettydoc_Nest.f kj3 1 a0_0 a0_1 a0_2 l0_3).bind fun bt658 => ((prettydoc_Group.f kj3 bt658.1 bt658.2.1 bt658.2.2.1 bt658.2.2.2).bind fun bt664 => ((prettydoc_Right.f kj3 bt664.1 bt664.2.1 bt664.2.2.1 bt664.2.2.2).bind fun t670 => (if t670 = 0 then (if (bt617.2 != t600) = true then (none) else (arboristlaw54_PrettydocJoins_v2.j1 kj3 (bt617.1.toList != t599.toList) a0_0 a0_1 a0_2 l0_3 a1_0 a1_1 a1_2 l1_3 t587 t588 t589 t590)) else (arboristlaw54_PrettydocJoins_v2.j1 kj3 false a0_0 a0_1 a0_2 l0_3 a1_0 a1_1 a1_2 l1_3 t587 t588 t589 t590))))))))))))) = some r := H
     have A27 := Aside0.mk A270
     clear A270
     replace H := Option.bind_eq_some_iff.mp H
     obtain ⟨⟨t601, t602⟩, A280, H⟩ := H
     replace H : ((prettydoc_Flat.f kj3 t587 t588 t589 t590).bind fun bt603 => ((prettydoc_Nest.f kj3 (Int.tmod (wrap64 (a2)) 100) a0_0 a0_1 a0_2 l0_3).bind fun bt605 => ((prettydoc_Group.f kj3 bt605.1 bt605.2.1 bt605.2.2.1 bt605.2.2.2).bind fun bt611 => ((prettydoc_Flat.f kj3 bt611.1 bt611.2.1 bt611.2.2.1 bt611.2.2.2).bind fun bt617 => (if t600 = true then (if (bt603.2 != t602) = true then (none) else (if bt603.2 = true then (if t599.size + t601.size ≤ 9223372036854775807 then (if bt603.1.toList = (t599 ++ t601).toList then ((prettydoc_Nest.f kj3 1 a0_0 a0_1 a0_2 l0_3).bind fun bt619 => ((prettydoc_Group.f kj3 bt619.1 bt619.2.1 bt619.2.2.1 bt619.2.2.2).bind fun bt625 => ((prettydoc_Right.f kj3 bt625.1 bt625.2.1 bt625.2.2.1 bt625.2.2.2).bind fun t631 => (if t631 = 0 then (if (bt617.2 != t600) = true then (none) else (arboristlaw54_PrettydocJoins_v2.j1 kj3 (bt617.1.toList != t599.toList) a0_0 a0_1 a0_2 l0_3 a1_0 a1_1 a1_2 l1_3 t587 t588 t589 t590)) else (arboristlaw54_PrettydocJoins_v2.j1 kj3 false a0_0 a0_1 a0_2 l0_3 a1_0 a1_1 a1_2 l1_3 t587 t588 t589 t590))))) else (none)) else (none)) else ((prettydoc_Nest.f kj3 1 a0_0 a0_1 a0_2 l0_3).bind fun bt632 => ((prettydoc_Group.f kj3 bt632.1 bt632.2.1 bt632.2.2.1 bt632.2.2.2).bind fun bt638 => ((prettydoc_Right.f kj3 bt638.1 bt638.2.1 bt638.2.2.1 bt638.2.2.2).bind fun t644 => (if t644 = 0 then (if (bt617.2 != t600) = true then (none) else (arboristlaw54_PrettydocJoins_v2.j1 kj3 (bt617.1.toList != t599.toList) a0_0 a0_1 a0_2 l0_3 a1_0 a1_1 a1_2 l1_3 t587 t588 t589 t590)) else (arboristlaw54_PrettydocJoins_v2.j1 kj3 false a0_0 a0_1 a0_2 l0_3 a1_0 a1_1 a1_2 l1_3 t587 t588 t589 t590))))))) else (if (bt603.2 != false) = true then (none) else (if bt603.2 = true then (none) else ((prettydoc_Nest.f kj3 1 a0_0 a0_1 a0_2 l0_3).bind fun bt658 => ((prettydoc_Group.f kj3 bt658.1 bt658.2.1 bt658.2.2.1 bt658.2.2.2).bind fun bt664 => ((prettydoc_Right.f kj3 bt664.1 bt664.2.1 bt664.2.2.1 bt664.2.2.2).bind fun t670 => (if t670 = 0 then (if (bt617.2 != t600) = true then (none) else (arboristlaw54_PrettydocJoins_v2.j1 kj3 (bt617.1.toList != t599.toList) a0_0 a0_1 a0_2 l0_3 a1_0 a1_1 a1_2 l1_3 t587 t588 t589 t590)) else (arboristlaw54_PrettydocJoins_v2.j1 kj3 false a0_0 a0_1 a0_2 l0_3 a1_0 a1_1 a1_2 l1_3 t587 t588 t589 t590)))))))))))) = some r := H
     have A28 := Aside0.mk A280
     clear A280
     replace H := Option.bind_eq_some_iff.mp H
     obtain ⟨⟨t603, t604⟩, A290, H⟩ := H
     replace H : ((prettydoc_Nest.f kj3 (Int.tmod (wrap64 (a2)) 100) a0_0 a0_1 a0_2 l0_3).bind fun bt605 => ((prettydoc_Group.f kj3 bt605.1 bt605.2.1 bt605.2.2.1 bt605.2.2.2).bind fun bt611 => ((prettydoc_Flat.f kj3 bt611.1 bt611.2.1 bt611.2.2.1 bt611.2.2.2).bind fun bt617 => (if t600 = true then (if (t604 != t602) = true then (none) else (if t604 = true then (if t599.size + t601.size ≤ 9223372036854775807 then (if t603.toList = (t599 ++ t601).toList then ((prettydoc_Nest.f kj3 1 a0_0 a0_1 a0_2 l0_3).bind fun bt619 => ((prettydoc_Group.f kj3 bt619.1 bt619.2.1 bt619.2.2.1 bt619.2.2.2).bind fun bt625 => ((prettydoc_Right.f kj3 bt625.1 bt625.2.1 bt625.2.2.1 bt625.2.2.2).bind fun t631 => (if t631 = 0 then (if (bt617.2 != t600) = true then (none) else (arboristlaw54_PrettydocJoins_v2.j1 kj3 (bt617.1.toList != t599.toList) a0_0 a0_1 a0_2 l0_3 a1_0 a1_1 a1_2 l1_3 t587 t588 t589 t590)) else (arboristlaw54_PrettydocJoins_v2.j1 kj3 false a0_0 a0_1 a0_2 l0_3 a1_0 a1_1 a1_2 l1_3 t587 t588 t589 t590))))) else (none)) else (none)) else ((prettydoc_Nest.f kj3 1 a0_0 a0_1 a0_2 l0_3).bind fun bt632 => ((prettydoc_Group.f kj3 bt632.1 bt632.2.1 bt632.2.2.1 bt632.2.2.2).bind fun bt638 => ((prettydoc_Right.f kj3 bt638.1 bt638.2.1 bt638.2.2.1 bt638.2.2.2).bind fun t644 => (if t644 = 0 then (if (bt617.2 != t600) = true then (none) else (arboristlaw54_PrettydocJoins_v2.j1 kj3 (bt617.1.toList != t599.toList) a0_0 a0_1 a0_2 l0_3 a1_0 a1_1 a1_2 l1_3 t587 t588 t589 t590)) else (arboristlaw54_PrettydocJoins_v2.j1 kj3 false a0_0 a0_1 a0_2 l0_3 a1_0 a1_1 a1_2 l1_3 t587 t588 t589 t590))))))) else (if (t604 != false) = true then (none) else (if t604 = true then (none) else ((prettydoc_Nest.f kj3 1 a0_0 a0_1 a0_2 l0_3).bind fun bt658 => ((prettydoc_Group.f kj3 bt658.1 bt658.2.1 bt658.2.2.1 bt658.2.2.2).bind fun bt664 => ((prettydoc_Right.f kj3 bt664.1 bt664.2.1 bt664.2.2.1 bt664.2.2.2).bind fun t670 => (if t670 = 0 then (if (bt617.2 != t600) = true then (none) else (arboristlaw54_PrettydocJoins_v2.j1 kj3 (bt617.1.toList != t599.toList) a0_0 a0_1 a0_2 l0_3 a1_0 a1_1 a1_2 l1_3 t587 t588 t589 t590)) else (arboristlaw54_PrettydocJoins_v2.j1 kj3 false a0_0 a0_1 a0_2 l0_3 a1_0 a1_1 a1_2 l1_3 t587 t588 t589 t590))))))))))) = some r := H
     have A29 := Aside0.mk A290
     clear A290
     replace H := Option.bind_eq_some_iff.mp H
     obtain ⟨⟨t605, t606, t607, t608⟩, A300, H⟩ := H
     replace H : ((prettydoc_Group.f kj3 t605 t606 t607 t608).bind fun bt611 => ((prettydoc_Flat.f kj3 bt611.1 bt611.2.1 bt611.2.2.1 bt611.2.2.2).bind fun bt617 => (if t600 = true then (if (t604 != t602) = true then (none) else (if t604 = true then (if t599.size + t601.size ≤ 9223372036854775807 then (if t603.toList = (t599 ++ t601).toList then ((prettydoc_Nest.f kj3 1 a0_0 a0_1 a0_2 l0_3).bind fun bt619 => ((prettydoc_Group.f kj3 bt619.1 bt619.2.1 bt619.2.2.1 bt619.2.2.2).bind fun bt625 => ((prettydoc_Right.f kj3 bt625.1 bt625.2.1 bt625.2.2.1 bt625.2.2.2).bind fun t631 => (if t631 = 0 then (if (bt617.2 != t600) = true then (none) else (arboristlaw54_PrettydocJoins_v2.j1 kj3 (bt617.1.toList != t599.toList) a0_0 a0_1 a0_2 l0_3 a1_0 a1_1 a1_2 l1_3 t587 t588 t589 t590)) else (arboristlaw54_PrettydocJoins_v2.j1 kj3 false a0_0 a0_1 a0_2 l0_3 a1_0 a1_1 a1_2 l1_3 t587 t588 t589 t590))))) else (none)) else (none)) else ((prettydoc_Nest.f kj3 1 a0_0 a0_1 a0_2 l0_3).bind fun bt632 => ((prettydoc_Group.f kj3 bt632.1 bt632.2.1 bt632.2.2.1 bt632.2.2.2).bind fun bt638 => ((prettydoc_Right.f kj3 bt638.1 bt638.2.1 bt638.2.2.1 bt638.2.2.2).bind fun t644 => (if t644 = 0 then (if (bt617.2 != t600) = true then (none) else (arboristlaw54_PrettydocJoins_v2.j1 kj3 (bt617.1.toList != t599.toList) a0_0 a0_1 a0_2 l0_3 a1_0 a1_1 a1_2 l1_3 t587 t588 t589 t590)) else (arboristlaw54_PrettydocJoins_v2.j1 kj3 false a0_0 a0_1 a0_2 l0_3 a1_0 a1_1 a1_2 l1_3 t587 t588 t589 t590))))))) else (if (t604 != false) = true then (none) else (if t604 = true then (none) else ((prettydoc_Nest.f kj3 1 a0_0 a0_1 a0_2 l0_3).bind fun bt658 => ((prettydoc_Group.f kj3 bt658.1 bt658.2.1 bt658.2.2.1 bt658.2.2.2).bind fun bt664 => ((prettydoc_Right.f kj3 bt664.1 bt664.2.1 bt664.2.2.1 bt664.2.2.2).bind fun t670 => (if t670 = 0 then (if (bt617.2 != t600) = true then (none) else (arboristlaw54_PrettydocJoins_v2.j1 kj3 (bt617.1.toList != t599.toList) a0_0 a0_1 a0_2 l0_3 a1_0 a1_1 a1_2 l1_3 t587 t588 t589 t590)) else (arboristlaw54_PrettydocJoins_v2.j1 kj3 false a0_0 a0_1 a0_2 l0_3 a1_0 a1_1 a1_2 l1_3 t587 t588 t589 t590)))))))))) = some r := H
     have A30 := Aside0.mk A300
     clear A300
     replace H := Option.bind_eq_some_iff.mp H
     obtain ⟨⟨t611, t612, t613, t614⟩, A310, H⟩ := H
     replace H : ((prettydoc_Flat.f kj3 t611 t612 t613 t614).bind fun bt617 => (if t600 = true then (if (t604 != t602) = true then (none) else (if t604 = true then (if t599.size + t601.size ≤ 9223372036854775807 then (if t603.toList = (t599 ++ t601).toList then ((prettydoc_Nest.f kj3 1 a0_0 a0_1 a0_2 l0_3).bind fun bt619 => ((prettydoc_Group.f kj3 bt619.1 bt619.2.1 bt619.2.2.1 bt619.2.2.2).bind fun bt625 => ((prettydoc_Right.f kj3 bt625.1 bt625.2.1 bt625.2.2.1 bt625.2.2.2).bind fun t631 => (if t631 = 0 then (if (bt617.2 != t600) = true then (none) else (arboristlaw54_PrettydocJoins_v2.j1 kj3 (bt617.1.toList != t599.toList) a0_0 a0_1 a0_2 l0_3 a1_0 a1_1 a1_2 l1_3 t587 t588 t589 t590)) else (arboristlaw54_PrettydocJoins_v2.j1 kj3 false a0_0 a0_1 a0_2 l0_3 a1_0 a1_1 a1_2 l1_3 t587 t588 t589 t590))))) else (none)) else (none)) else ((prettydoc_Nest.f kj3 1 a0_0 a0_1 a0_2 l0_3).bind fun bt632 => ((prettydoc_Group.f kj3 bt632.1 bt632.2.1 bt632.2.2.1 bt632.2.2.2).bind fun bt638 => ((prettydoc_Right.f kj3 bt638.1 bt638.2.1 bt638.2.2.1 bt638.2.2.2).bind fun t644 => (if t644 = 0 then (if (bt617.2 != t600) = true then (none) else (arboristlaw54_PrettydocJoins_v2.j1 kj3 (bt617.1.toList != t599.toList) a0_0 a0_1 a0_2 l0_3 a1_0 a1_1 a1_2 l1_3 t587 t588 t589 t590)) else (arboristlaw54_PrettydocJoins_v2.j1 kj3 false a0_0 a0_1 a0_2 l0_3 a1_0 a1_1 a1_2 l1_3 t587 t588 t589 t590))))))) else (if (t604 != false) = true then (none) else (if t604 = true then (none) else ((prettydoc_Nest.f kj3 1 a0_0 a0_1 a0_2 l0_3).bind fun bt658 => ((prettydoc_Group.f kj3 bt658.1 bt658.2.1 bt658.2.2.1 bt658.2.2.2).bind fun bt664 => ((prettydoc_Right.f kj3 bt664.1 bt664.2.1 bt664.2.2.1 bt664.2.2.2).bind fun t670 => (if t670 = 0 then (if (bt617.2 != t600) = true then (none) else (arboristlaw54_PrettydocJoins_v2.j1 kj3 (bt617.1.toList != t599.toList) a0_0 a0_1 a0_2 l0_3 a1_0 a1_1 a1_2 l1_3 t587 t588 t589 t590)) else (arboristlaw54_PrettydocJoins_v2.j1 kj3 false a0_0 a0_1 a0_2 l0_3 a1_0 a1_1 a1_2 l1_3 t587 t588 t589 t590))))))))) = some r := H
     have A31 := Aside0.mk A310
     clear A310
     replace H := Option.bind_eq_some_iff.mp H
     obtain ⟨⟨t617, t618⟩, A320, H⟩ := H
     replace H : (if t600 = true then (if (t604 != t602) = true then (none) else (if t604 = true then (if t599.size + t601.size ≤ 9223372036854775807 then (if t603.toList = (t599 ++ t601).toList then ((prettydoc_Nest.f kj3 1 a0_0 a0_1 a0_2 l0_3).bind fun bt619 => ((prettydoc_Group.f kj3 bt619.1 bt619.2.1 bt619.2.2.1 bt619.2.2.2).bind fun bt625 => ((prettydoc_Right.f kj3 bt625.1 bt625.2.1 bt625.2.2.1 bt625.2.2.2).bind fun t631 => (if t631 = 0 then (if (t618 != t600) = true then (none) else (arboristlaw54_PrettydocJoins_v2.j1 kj3 (t617.toList != t599.toList) a0_0 a0_1 a0_2 l0_3 a1_0 a1_1 a1_2 l1_3 t587 t588 t589 t590)) else (arboristlaw54_PrettydocJoins_v2.j1 kj3 false a0_0 a0_1 a0_2 l0_3 a1_0 a1_1 a1_2 l1_3 t587 t588 t589 t590))))) else (none)) else (none)) else ((prettydoc_Nest.f kj3 1 a0_0 a0_1 a0_2 l0_3).bind fun bt632 => ((prettydoc_Group.f kj3 bt632.1 bt632.2.1 bt632.2.2.1 bt632.2.2.2).bind fun bt638 => ((prettydoc_Right.f kj3 bt638.1 bt638.2.1 bt638.2.2.1 bt638.2.2.2).bind fun t644 => (if t644 = 0 then (if (t618 != t600) = true then (none) else (arboristlaw54_PrettydocJoins_v2.j1 kj3 (t617.toList != t599.toList) a0_0 a0_1 a0_2 l0_3 a1_0 a1_1 a1_2 l1_3 t587 t588 t589 t590)) else (arboristlaw54_PrettydocJoins_v2.j1 kj3 false a0_0 a0_1 a0_2 l0_3 a1_0 a1_1 a1_2 l1_3 t587 t588 t589 t590))))))) else (if (t604 != false) = true then (none) else (if t604 = true then (none) else ((prettydoc_Nest.f kj3 1 a0_0 a0_1 a0_2 l0_3).bind fun bt658 => ((prettydoc_Group.f kj3 bt658.1 bt658.2.1 bt658.2.2.1 bt658.2.2.2).bind fun bt664 => ((prettydoc_Right.f kj3 bt664.1 bt664.2.1 bt664.2.2.1 bt664.2.2.2).bind fun t670 => (if t670 = 0 then (if (t618 != t600) = true then (none) else (arboristlaw54_PrettydocJoins_v2.j1 kj3 (t617.toList != t599.toList) a0_0 a0_1 a0_2 l0_3 a1_0 a1_1 a1_2 l1_3 t587 t588 t589 t590)) else (arboristlaw54_PrettydocJoins_v2.j1 kj3 false a0_0 a0_1 a0_2 l0_3 a1_0 a1_1 a1_2 l1_3 t587 t588 t589 t590)))))))) = some r := H
     have A32 := Aside0.mk A320
     clear A320
     have HC33 := Aside0.mk H
     clear H
     have hnb34 := NB577_578.out
     have hnc34 := NB578_577.out
     have hcz35_0 : wc.cell? ⟨gb577, 0, none⟩ = some (.int .i64 a0_0) := (blk_cell BK577.out 0).trans rfl
     have hcz35_1 : wc.cell? ⟨gb577, 1, none⟩ = some (.string a0_1) := (blk_cell BK577.out 1).trans rfl
     have hcz35_2 : wc.cell? ⟨gb577, 2, none⟩ = some (.int .i64 a0_2) := (blk_cell BK577.out 2).trans rfl
     have hcz35_3 : wc.cell? ⟨gb577, 3, none⟩ = some (.slice A0_3 l0_3.length c0_3) := (blk_cell BK577.out 3).trans rfl
     have hfz35_0 := blk_frozen BK577.out 0
     have hfz35_1 := blk_frozen BK577.out 1
     have hfz35_2 := blk_frozen BK577.out 2
     have hfz35_3 := blk_frozen BK577.out 3
     have hcz36_0 : wc.cell? ⟨gb578, 0, none⟩ = some (.int .i64 a1_0) := (blk_cell BK578.out 0).trans rfl
     have hcz36_1 : wc.cell? ⟨gb578, 1, none⟩ = some (.string a1_1) := (blk_cell BK578.out 1).trans rfl
     have hcz36_2 : wc.cell? ⟨gb578, 2, none⟩ = some (.int .i64 a1_2) := (blk_cell BK578.out 2).trans rfl
     have hcz36_3 : wc.cell? ⟨gb578, 3, none⟩ = some (.slice A1_3 l1_3.length c1_3) := (blk_cell BK578.out 3).trans rfl
     have hfz36_0 := blk_frozen BK578.out 0
     have hfz36_1 := blk_frozen BK578.out 1
     have hfz36_2 := blk_frozen BK578.out 2
     have hfz36_3 := blk_frozen BK578.out 3
     go_upto_region 10 with (first | ((with_reducible refine gate_dst (N := 37) rfl ?_); refine Kd.N_lit k25 _ 25 ?hg (N' := 37) ?hd (xs := ([(⟨a0_0, a0_1, a0_2, l0_3⟩ : S25), (⟨a1_0, a1_1, a1_2, l1_3⟩ : S25)] : List (S25))) (inner := [.int .i64 a0_0, .string a0_1, .int .i64 a0_2, .slice A0_3 l0_3.length c0_3, .int .i64 a1_0, .string a1_1, .int .i64 a1_2, .slice A1_3 l1_3.length c1_3]) (ok := (fun k_ => ((P0_3_ k_ ∨ P1_3_ k_) ∨ w.heap.size ≤ k_) ∧ k_ ≠ gb577 ∧ k_ ≠ gb578)) (okp := (fun k_ => ((P0_3_ k_ ∨ P1_3_ k_) ∨ w.heap.size ≤ k_) ∧ k_ ≠ gb577 ∧ k_ ≠ gb578)) ?hr ?hp (fun _ hk => hk) ((show ∀ k_, wc.heap.size ≤ k_ → (fun k_ => ((P0_3_ k_ ∨ P1_3_ k_) ∨ w.heap.size ≤ k_) ∧ k_ ≠ gb577 ∧ k_ ≠ gb578) k_ from fun k_ hk => ⟨(.inr (Nat.le_trans (below_size (by repeat (with_reducible first | exact HB.out | apply below_alloc | apply pw_below_drewN | apply below_drew1 | refine below_set ?_ GE577.out | refine below_set ?_ GE578.out))) hk)), Kd.freshB (bT BK577.out) k_ hk, Kd.freshB (bT BK578.out) k_ hk⟩) _ (Nat.le_refl _)) (Below.refl _ _) (Nat.le_refl _) (by simp) ?_; (case hd => rfl); (case hg => rfl); (case hr => first | (go_simp; done) | (go_simp; rfl)); (case hp => exact (Reps.c4 (show Kd.FK k25 _ _ (⟨a0_0, a0_1, a0_2, l0_3⟩ : S25) [.int .i64 a0_0, .string a0_1, .int .i64 a0_2, .slice A0_3 l0_3.length c0_3] from (k25_mkF _ _ (⟨a0_0, a0_1, a0_2, l0_3⟩ : S25) (Kd.V_reads' (Kd.V_mono (ok' := (fun k_ => ((P0_3_ k_ ∨ P1_3_ k_) ∨ w.heap.size ≤ k_) ∧ k_ ≠ gb577 ∧ k_ ≠ gb578)) (HO_578003.out) (fun k_ hk => ⟨hk.1, ⟨hk.2.1, hk.2.2⟩⟩))).2.1 (Kd.V_F (Kd.V_mono (ok' := (fun k_ => ((P0_3_ k_ ∨ P1_3_ k_) ∨ w.heap.size ≤ k_) ∧ k_ ≠ gb577 ∧ k_ ≠ gb578)) (HO_578003.out) (fun k_ hk => ⟨hk.1, ⟨hk.2.1, hk.2.2⟩⟩))))) (Reps.c4 (show Kd.FK k25 _ _ (⟨a1_0, a1_1, a1_2, l1_3⟩ : S25) [.int .i64 a1_0, .string a1_1, .int .i64 a1_2, .slice A1_3 l1_3.length c1_3] from (k25_mkF _ _ (⟨a1_0, a1_1, a1_2, l1_3⟩ : S25) (Kd.V_reads' (Kd.V_mono (ok' := (fun k_ => ((P0_3_ k_ ∨ P1_3_ k_) ∨ w.heap.size ≤ k_) ∧ k_ ≠ gb577 ∧ k_ ≠ gb578)) (HO_579003.out) (fun k_ hk => ⟨hk.1, ⟨hk.2.1, hk.2.2⟩⟩))).2.1 (Kd.V_F (Kd.V_mono (ok' := (fun k_ => ((P0_3_ k_ ∨ P1_3_ k_) ∨ w.heap.size ≤ k_) ∧ k_ ≠ gb577 ∧ k_ ≠ gb578)) (HO_579003.out) (fun k_ hk => ⟨hk.1, ⟨hk.2.1, hk.2.2⟩⟩))))) (Reps.none _ _)))); intro v585 w37 ho38 hb hg_ hnew_; clear hg_ hnew_; (first | rw [← Ny584.out] at ho38 | (simp only [Int.reduceToNat] at ho38; rw [← Ny584.out] at ho38)); have n0_ := Aside0.mk (Kd.V_elder' (Kd.V_t HO_578003.out) (by first | exact Kd.N_base ho38 | exact Kd.R_base ho38 | exact Kd.S_base ho38 | exact Kd.Q_base ho38) hb); have n1_ := Aside0.mk (Kd.V_elder' (Kd.V_t HO_579003.out) (by first | exact Kd.N_base ho38 | exact Kd.R_base ho38 | exact Kd.S_base ho38 | exact Kd.Q_base ho38) hb); have n2_ := Aside0.mk (Kd.N_lower ho38 (below_size (by repeat (with_reducible first | exact HB.out | apply below_alloc | apply pw_below_drewN | apply below_drew1 | refine below_set ?_ GE577.out | refine below_set ?_ GE578.out)))); have n3_ := Aside0.mk (blk_below (bT BK577.out) hb); have n4_ := Aside0.mk (blk_below (bT BK578.out) hb); have n5_ := Aside0.mk (below_step (by repeat (with_reducible first | exact HB.out | apply below_alloc | apply pw_below_drewN | apply below_drew1 | refine below_set ?_ GE577.out | refine below_set ?_ GE578.out)) hb); clear HO_578003; clear HO_579003; clear BK577; clear BK578; clear HB; have HO_578003 := n0_; have HO_579003 := n1_; have HO586 := n2_; have BK577 := n3_; have BK578 := n4_; have HB := n5_; clear n0_ n1_ n2_ n3_ n4_ n5_; clear hb ho38; obtain ⟨Ao39, co39, eo39⟩ := Kd.N_slice HO586.out; subst eo39) | ((with_reducible refine gate_callee (f := 27) rfl ?_); refine goesL_ (some 38) rfl rfl Try.func27 (by kernel_rfl) rfl #[.slice Ao39 y584.length co39] rfl (by (try simp only [List.map_toArray, List.map_cons, List.map_nil]); first | done | rfl | (simp only [List.length_drop, List.length_take]; rfl)) ?_; (with_reducible refine (prettydoc_Cat.calls kj3 _ _ y584 t587 t588 t589 t590 _ ?side1 ?side2 A24.out).mono ?_); (case side1 => repeat (first | exact (Kd.N_reads' HO586.out).2.2 | (with_reducible refine Kd.C_alloc ?_ _) | (with_reducible refine Kd.C_drewN ?_ _) | (with_reducible refine Kd.C_drew ?_))); (case side2 => exact (Kd.N_reads' HO586.out).2.1); rintro e w40 ⟨v591, rfl, ho0, hb⟩; refine ⟨_, rfl, ?_⟩; have n0_ := Aside0.mk (Kd.V_elder' (Kd.V_t HO_578003.out) (by first | exact Kd.N_base ho0 | exact Kd.R_base ho0 | exact Kd.S_base ho0 | exact Kd.Q_base ho0) hb); have n1_ := Aside0.mk (Kd.V_elder' (Kd.V_t HO_579003.out) (by first | exact Kd.N_base ho0 | exact Kd.R_base ho0 | exact Kd.S_base ho0 | exact Kd.Q_base ho0) hb); have n2_ := Aside0.mk (Kd.N_elder' (Kd.N_t HO586.out) (by first | exact Kd.N_base ho0 | exact Kd.R_base ho0 | exact Kd.S_base ho0 | exact Kd.Q_base ho0) hb); have n3_ := Aside0.mk (Kd.N_lower (Kd.N_mono (ok' := fun k_ => ((P0_3_ k_ ∨ P1_3_ k_) ∨ w.heap.size ≤ k_) ∧ some k_ ≠ (.slice Ao39 y584.length co39 : Value).ownBlock ∧ k_ ≠ gb577 ∧ k_ ≠ gb578) (Kd.R_N (Kd.R_bound ho0)) (fun k_ hk_ => ⟨(.inr (Nat.le_trans (below_size (by repeat (with_reducible first | exact HB.out | apply below_alloc | apply pw_below_drewN | apply below_drew1 | refine below_set ?_ GE577.out | refine below_set ?_ GE578.out))) hk_.2.1)), (Kd.fresh' (Kd.N_lt (Kd.N_t HO586.out)) k_ hk_.2.1), (Kd.freshB (bT BK577.out) k_ hk_.2.1), (Kd.freshB (bT BK578.out) k_ hk_.2.1)⟩)) (below_size (by repeat (with_reducible first | exact HB.out | apply below_alloc | apply pw_below_drewN | apply below_drew1 | refine below_set ?_ GE577.out | refine below_set ?_ GE578.out)))); have n4_ := Aside0.mk (blk_below (bT BK577.out) hb); have n5_ := Aside0.mk (blk_below (bT BK578.out) hb); have n6_ := Aside0.mk (below_step (by repeat (with_reducible first | exact HB.out | apply below_alloc | apply pw_below_drewN | apply below_drew1 | refine below_set ?_ GE577.out | refine below_set ?_ GE578.out)) hb); clear HO_578003; clear HO_579003; clear HO586; clear BK577; clear BK578; clear HB; have HO_578003 := n0_; have HO_579003 := n1_; have HO586 := n2_; have HO592 := n3_; have BK577 := n4_; have BK578 := n5_; have HB := n6_; clear n0_ n1_ n2_ n3_ n4_ n5_ n6_; (try clear hb); (try clear hb2); (try clear hk); (try clear hi); (try clear ho0)) | ((with_reducible refine gate_dst (N := 7) rfl ?_); refine box_event ?hg (N := 7) ?hd (cs := #[.int .i64 0, .string (⟨#[]⟩ : ByteArray), .int .i64 0, .slice none 0 0]) (t := 25) ?hr ?_; (case hd => rfl); (case hg => rfl); (case hr => first | (go_simp; done) | (go_simp; rfl)); intro gb593 hg w41 hbox hb; have n0_ := Aside0.mk (Kd.V_below (Kd.V_elderB (Kd.V_t HO_578003.out) gb593 (Nat.le_of_eq hg.symm)) hb); have n1_ := Aside0.mk (Kd.V_below (Kd.V_elderB (Kd.V_t HO_579003.out) gb593 (Nat.le_of_eq hg.symm)) hb); have n2_ := Aside0.mk (Kd.N_below (Kd.N_elderB (Kd.N_t HO586.out) gb593 (Nat.le_of_eq hg.symm)) hb); have n3_ := Aside0.mk (Kd.N_below (Kd.N_elderB (Kd.N_t HO592.out) gb593 (Nat.le_of_eq hg.symm)) hb); have n4_ := Aside0.mk (blk_below (bT BK577.out) hb); have n5_ := Aside0.mk (blk_below (bT BK578.out) hb); have n6_ := Aside0.mk (below_step (by repeat (with_reducible first | exact HB.out | apply below_alloc | apply pw_below_drewN | apply below_drew1 | refine below_set ?_ GE577.out | refine below_set ?_ GE578.out)) hb); have n7_ := Aside0.mk (hbox); have n8_ := Aside0.mk ((by rw [hg]; exact (below_size (by repeat (with_reducible first | exact HB.out | apply below_alloc | apply pw_below_drewN | apply below_drew1 | refine below_set ?_ GE577.out | refine below_set ?_ GE578.out))) : w.heap.size ≤ gb593)); have n9_ := Aside0.mk ((by rw [hg]; exact (below_size (by repeat (with_reducible first | exact HB.out | apply below_alloc | apply pw_below_drewN | apply below_drew1 | refine below_set ?_ GE577.out | refine below_set ?_ GE578.out))) : w.heap.size ≤ gb593)); have n10_ := Aside0.mk ((by rw [hg]; exact Nat.ne_of_lt (blk_lt (bT BK577.out)) : gb577 ≠ gb593)); have n11_ := Aside0.mk ((by rw [hg]; exact Nat.ne_of_gt (blk_lt (bT BK577.out)) : gb593 ≠ gb577)); have n12_ := Aside0.mk ((by rw [hg]; exact Nat.ne_of_lt (blk_lt (bT BK578.out)) : gb578 ≠ gb593)); have n13_ := Aside0.mk ((by rw [hg]; exact Nat.ne_of_gt (blk_lt (bT BK578.out)) : gb593 ≠ gb578)); clear HO_578003; clear HO_579003; clear HO586; clear HO592; clear BK577; clear BK578; clear HB; have HO_578003 := n0_; have HO_579003 := n1_; have HO586 := n2_; have HO592 := n3_; have BK577 := n4_; have BK578 := n5_; have HB := n6_; have BK593 := n7_; have GW593 := n8_; have GE593 := n9_; have NB577_593 := n10_; have NB593_577 := n11_; have NB578_593 := n12_; have NB593_578 := n13_; clear n0_ n1_ n2_ n3_ n4_ n5_ n6_ n7_ n8_ n9_ n10_ n11_ n12_ n13_; clear hb hbox hg; have hnb42 := NB593_577.out; have hnc42 := NB577_593.out; have hnb43 := NB593_578.out; have hnc43 := NB578_593.out; have hcz44_0 : w41.cell? ⟨gb593, 0, none⟩ = some (.int .i64 0) := (blk_cell BK593.out 0).trans rfl; have hcz44_1 : w41.cell? ⟨gb593, 1, none⟩ = some (.string (⟨#[]⟩ : ByteArray)) := (blk_cell BK593.out 1).trans rfl; have hcz44_2 : w41.cell? ⟨gb593, 2, none⟩ = some (.int .i64 0) := (blk_cell BK593.out 2).trans rfl; have hcz44_3 : w41.cell? ⟨gb593, 3, none⟩ = some (.slice none 0 0) := (blk_cell BK593.out 3).trans rfl; have hfz44_0 := blk_frozen BK593.out 0; have hfz44_1 := blk_frozen BK593.out 1; have hfz44_2 := blk_frozen BK593.out 2; have hfz44_3 := blk_frozen BK593.out 3; obtain ⟨Ao45, co45, eo45⟩ := Kd.N_slice HO592.out; subst eo45) | ((with_reducible refine gate_callee (f := 11) rfl ?_); refine goesL_ (some 40) rfl rfl Try.func11 (by kernel_rfl) rfl #[.agg #[.int .i64 t587, .string t588, .int .i64 t589, .slice Ao45 t590.length co45]] rfl (by (try simp only [List.map_toArray, List.map_cons, List.map_nil]); first | done | rfl | (simp only [List.length_drop, List.length_take]; rfl)) ?_; (with_reducible refine (prettydoc_Right.calls kj3 t587 t588 t589 _ _ t590 t594 _ ?side1 ?side2 A25.out).mono ?_); (case side1 => first | (refine (Kd.N_reads' (e := 25) (base := w.heap.size) (ok := fun k_ => (((w.heap.size ≤ k_) ∧ (some k_ ≠ (.slice Ao39 y584.length co39 : Value).ownBlock ∧ (k_ ≠ gb577 ∧ k_ ≠ gb578))) ∧ k_ ≠ gb593)) (n := t590.length) (c := co45) ?_).2.2; exact (Kd.N_t (Kd.N_mono (Kd.N_far (p := ⟨gb593, 3, none⟩) (Kd.N_far (p := ⟨gb593, 2, none⟩) (Kd.N_far (p := ⟨gb593, 1, none⟩) (Kd.N_far (p := ⟨gb593, 0, none⟩) (Kd.N_mono HO592.out (fun k_ hk => (⟨hk, hk.2⟩ : _ ∧ k_ ≠ gb593))) (fun _ hk => hk.2) (.int .i64 t587)) (fun _ hk => hk.2) (.string t588)) (fun _ hk => hk.2) (.int .i64 t589)) (fun _ hk => hk.2) (.slice Ao45 t590.length co45)) (fun _ h_ => h_.1)))) | (exact (Kd.N_reads' (Kd.N_far (p := ⟨gb593, 3, none⟩) (Kd.N_far (p := ⟨gb593, 2, none⟩) (Kd.N_far (p := ⟨gb593, 1, none⟩) (Kd.N_far (p := ⟨gb593, 0, none⟩) (Kd.N_mono HO592.out (fun k_ hk => (⟨hk, hk.2⟩ : _ ∧ k_ ≠ gb593))) (fun _ hk => hk.2) (.int .i64 t587)) (fun _ hk => hk.2) (.string t588)) (fun _ hk => hk.2) (.int .i64 t589)) (fun _ hk => hk.2) (.slice Ao45 t590.length co45))).2.2)); (case side2 => exact (Kd.N_reads' HO592.out).2.1); rintro e w46 ⟨rfl, hb⟩; refine ⟨_, rfl, ?_⟩; have n0_ := Aside0.mk (Kd.V_below (Kd.V_t (Kd.V_mono (Kd.V_far (p := ⟨gb593, 3, none⟩) (Kd.V_far (p := ⟨gb593, 2, none⟩) (Kd.V_far (p := ⟨gb593, 1, none⟩) (Kd.V_far (p := ⟨gb593, 0, none⟩) (Kd.V_mono HO_578003.out (fun k_ hk => (⟨hk, hk.2⟩ : _ ∧ k_ ≠ gb593))) (fun _ hk => hk.2) (.int .i64 t587)) (fun _ hk => hk.2) (.string t588)) (fun _ hk => hk.2) (.int .i64 t589)) (fun _ hk => hk.2) (.slice Ao45 t590.length co45)) (fun _ h_ => h_.1))) hb); have n1_ := Aside0.mk (Kd.V_below (Kd.V_t (Kd.V_mono (Kd.V_far (p := ⟨gb593, 3, none⟩) (Kd.V_far (p := ⟨gb593, 2, none⟩) (Kd.V_far (p := ⟨gb593, 1, none⟩) (Kd.V_far (p := ⟨gb593, 0, none⟩) (Kd.V_mono HO_579003.out (fun k_ hk => (⟨hk, hk.2⟩ : _ ∧ k_ ≠ gb593))) (fun _ hk => hk.2) (.int .i64 t587)) (fun _ hk => hk.2) (.string t588)) (fun _ hk => hk.2) (.int .i64 t589)) (fun _ hk => hk.2) (.slice Ao45 t590.length co45)) (fun _ h_ => h_.1))) hb); have n2_ := Aside0.mk (Kd.N_below (Kd.N_t (Kd.N_mono (Kd.N_far (p := ⟨gb593, 3, none⟩) (Kd.N_far (p := ⟨gb593, 2, none⟩) (Kd.N_far (p := ⟨gb593, 1, none⟩) (Kd.N_far (p := ⟨gb593, 0, none⟩) (Kd.N_mono HO586.out (fun k_ hk => (⟨hk, hk.2⟩ : _ ∧ k_ ≠ gb593))) (fun _ hk => hk.2) (.int .i64 t587)) (fun _ hk => hk.2) (.string t588)) (fun _ hk => hk.2) (.int .i64 t589)) (fun _ hk => hk.2) (.slice Ao45 t590.length co45)) (fun _ h_ => h_.1))) hb); have n3_ := Aside0.mk (Kd.N_below (Kd.N_t (Kd.N_mono (Kd.N_far (p := ⟨gb593, 3, none⟩) (Kd.N_far (p := ⟨gb593, 2, none⟩) (Kd.N_far (p := ⟨gb593, 1, none⟩) (Kd.N_far (p := ⟨gb593, 0, none⟩) (Kd.N_mono HO592.out (fun k_ hk => (⟨hk, hk.2⟩ : _ ∧ k_ ≠ gb593))) (fun _ hk => hk.2) (.int .i64 t587)) (fun _ hk => hk.2) (.string t588)) (fun _ hk => hk.2) (.int .i64 t589)) (fun _ hk => hk.2) (.slice Ao45 t590.length co45)) (fun _ h_ => h_.1))) hb); have n4_ := Aside0.mk (blk_below (o := .cells #[.int .i64 a0_0, .string a0_1, .int .i64 a0_2, .slice A0_3 l0_3.length c0_3] 25 (0, 0)) (by (with_reducible repeat (first | refine blk_drewN ?_ _ | refine blk_drew ?_ | refine blk_alloc ?_ _)); refine blk_far ?_ NB577_593.out _; (with_reducible repeat (first | refine blk_drewN ?_ _ | refine blk_drew ?_ | refine blk_alloc ?_ _)); refine blk_far ?_ NB577_593.out _; (with_reducible repeat (first | refine blk_drewN ?_ _ | refine blk_drew ?_ | refine blk_alloc ?_ _)); refine blk_far ?_ NB577_593.out _; (with_reducible repeat (first | refine blk_drewN ?_ _ | refine blk_drew ?_ | refine blk_alloc ?_ _)); refine blk_far ?_ NB577_593.out _; exact bT BK577.out) hb); have n5_ := Aside0.mk (blk_below (o := .cells #[.int .i64 a1_0, .string a1_1, .int .i64 a1_2, .slice A1_3 l1_3.length c1_3] 25 (0, 0)) (by (with_reducible repeat (first | refine blk_drewN ?_ _ | refine blk_drew ?_ | refine blk_alloc ?_ _)); refine blk_far ?_ NB578_593.out _; (with_reducible repeat (first | refine blk_drewN ?_ _ | refine blk_drew ?_ | refine blk_alloc ?_ _)); refine blk_far ?_ NB578_593.out _; (with_reducible repeat (first | refine blk_drewN ?_ _ | refine blk_drew ?_ | refine blk_alloc ?_ _)); refine blk_far ?_ NB578_593.out _; (with_reducible repeat (first | refine blk_drewN ?_ _ | refine blk_drew ?_ | refine blk_alloc ?_ _)); refine blk_far ?_ NB578_593.out _; exact bT BK578.out) hb); have n6_ := Aside0.mk (blk_below (o := .cells #[.int .i64 t587, .string t588, .int .i64 t589, .slice Ao45 t590.length co45] 25 (0, 0)) (by (with_reducible repeat (first | refine blk_drewN ?_ _ | refine blk_drew ?_ | refine blk_alloc ?_ _)); refine blk_put (cs := #[.int .i64 t587, .string t588, .int .i64 t589, .slice none 0 0]) ?_ 3 _ rfl; (with_reducible repeat (first | refine blk_drewN ?_ _ | refine blk_drew ?_ | refine blk_alloc ?_ _)); refine blk_put (cs := #[.int .i64 t587, .string t588, .int .i64 0, .slice none 0 0]) ?_ 2 _ rfl; (with_reducible repeat (first | refine blk_drewN ?_ _ | refine blk_drew ?_ | refine blk_alloc ?_ _)); refine blk_put (cs := #[.int .i64 t587, .string (⟨#[]⟩ : ByteArray), .int .i64 0, .slice none 0 0]) ?_ 1 _ rfl; (with_reducible repeat (first | refine blk_drewN ?_ _ | refine blk_drew ?_ | refine blk_alloc ?_ _)); refine blk_put (cs := #[.int .i64 0, .string (⟨#[]⟩ : ByteArray), .int .i64 0, .slice none 0 0]) ?_ 0 _ rfl; exact bT BK593.out) hb); have n7_ := Aside0.mk (below_step (by repeat (with_reducible first | exact HB.out | apply below_alloc | apply pw_below_drewN | apply below_drew1 | refine below_set ?_ GE577.out | refine below_set ?_ GE578.out | refine below_set ?_ GE593.out)) hb); clear HO_578003; clear HO_579003; clear HO586; clear HO592; clear BK577; clear BK578; clear BK593; clear HB; have HO_578003 := n0_; have HO_579003 := n1_; have HO586 := n2_; have HO592 := n3_; have BK577 := n4_; have BK578 := n5_; have BK593 := n6_; have HB := n7_; clear n0_ n1_ n2_ n3_ n4_ n5_ n6_ n7_; (try clear hb); (try clear hb2); (try clear hk); (try clear hi); have hcz47_0 : w46.cell? ⟨gb577, 0, none⟩ = some (.int .i64 a0_0) := (blk_cell BK577.out 0).trans rfl; have hcz47_1 : w46.cell? ⟨gb577, 1, none⟩ = some (.string a0_1) := (blk_cell BK577.out 1).trans rfl; have hcz47_2 : w46.cell? ⟨gb577, 2, none⟩ = some (.int .i64 a0_2) := (blk_cell BK577.out 2).trans rfl; have hcz47_3 : w46.cell? ⟨gb577, 3, none⟩ = some (.slice A0_3 l0_3.length c0_3) := (blk_cell BK577.out 3).trans rfl; have hfz47_0 := blk_frozen BK577.out 0; have hfz47_1 := blk_frozen BK577.out 1; have hfz47_2 := blk_frozen BK577.out 2; have hfz47_3 := blk_frozen BK577.out 3) | ((with_reducible refine gate_callee (f := 19) rfl ?_); refine goesL_ (some 55) rfl rfl Try.func19 (by kernel_rfl) rfl #[.agg #[.int .i64 a0_0, .string a0_1, .int .i64 a0_2, .slice A0_3 l0_3.length c0_3]] rfl (by (try simp only [List.map_toArray, List.map_cons, List.map_nil]); first | done | rfl | (simp only [List.length_drop, List.length_take]; rfl)) ?_; (with_reducible refine (prettydoc_Flat.calls kj3 a0_0 a0_1 a0_2 _ _ l0_3 t599 t600 _ ?side1 ?side2 A27.out).mono ?_); (case side1 => repeat (first | exact (Kd.V_reads' HO_578003.out).2.2 | (with_reducible refine Kd.C_alloc ?_ _) | (with_reducible refine Kd.C_drewN ?_ _) | (with_reducible refine Kd.C_drew ?_))); (case side2 => exact (Kd.V_reads' HO_578003.out).2.1); rintro e w48 ⟨rfl, hb⟩; refine ⟨_, rfl, ?_⟩; have n0_ := Aside0.mk (Kd.V_below (Kd.V_t HO_578003.out) hb); have n1_ := Aside0.mk (Kd.V_below (Kd.V_t HO_579003.out) hb); have n2_ := Aside0.mk (Kd.N_below (Kd.N_t HO586.out) hb); have n3_ := Aside0.mk (Kd.N_below (Kd.N_t HO592.out) hb); have n4_ := Aside0.mk (blk_below (bT BK577.out) hb); have n5_ := Aside0.mk (blk_below (bT BK578.out) hb); have n6_ := Aside0.mk (blk_below (bT BK593.out) hb); have n7_ := Aside0.mk (below_step (by repeat (with_reducible first | exact HB.out | apply below_alloc | apply pw_below_drewN | apply below_drew1 | refine below_set ?_ GE577.out | refine below_set ?_ GE578.out | refine below_set ?_ GE593.out)) hb); clear HO_578003; clear HO_579003; clear HO586; clear HO592; clear BK577; clear BK578; clear BK593; clear HB; have HO_578003 := n0_; have HO_579003 := n1_; have HO586 := n2_; have HO592 := n3_; have BK577 := n4_; have BK578 := n5_; have BK593 := n6_; have HB := n7_; clear n0_ n1_ n2_ n3_ n4_ n5_ n6_ n7_; (try clear hb); (try clear hb2); (try clear hk); (try clear hi); have hcz49_0 : w48.cell? ⟨gb578, 0, none⟩ = some (.int .i64 a1_0) := (blk_cell BK578.out 0).trans rfl; have hcz49_1 : w48.cell? ⟨gb578, 1, none⟩ = some (.string a1_1) := (blk_cell BK578.out 1).trans rfl; have hcz49_2 : w48.cell? ⟨gb578, 2, none⟩ = some (.int .i64 a1_2) := (blk_cell BK578.out 2).trans rfl; have hcz49_3 : w48.cell? ⟨gb578, 3, none⟩ = some (.slice A1_3 l1_3.length c1_3) := (blk_cell BK578.out 3).trans rfl; have hfz49_0 := blk_frozen BK578.out 0; have hfz49_1 := blk_frozen BK578.out 1; have hfz49_2 := blk_frozen BK578.out 2; have hfz49_3 := blk_frozen BK578.out 3) | ((with_reducible refine gate_callee (f := 19) rfl ?_); refine goesL_ (some 60) rfl rfl Try.func19 (by kernel_rfl) rfl #[.agg #[.int .i64 a1_0, .string a1_1, .int .i64 a1_2, .slice A1_3 l1_3.length c1_3]] rfl (by (try simp only [List.map_toArray, List.map_cons, List.map_nil]); first | done | rfl | (simp only [List.length_drop, List.length_take]; rfl)) ?_; (with_reducible refine (prettydoc_Flat.calls kj3 a1_0 a1_1 a1_2 _ _ l1_3 t601 t602 _ ?side1 ?side2 A28.out).mono ?_); (case side1 => repeat (first | exact (Kd.V_reads' HO_579003.out).2.2 | (with_reducible refine Kd.C_alloc ?_ _) | (with_reducible refine Kd.C_drewN ?_ _) | (with_reducible refine Kd.C_drew ?_))); (case side2 => exact (Kd.V_reads' HO_579003.out).2.1); rintro e w50 ⟨rfl, hb⟩; refine ⟨_, rfl, ?_⟩; have n0_ := Aside0.mk (Kd.V_below (Kd.V_t HO_578003.out) hb); have n1_ := Aside0.mk (Kd.V_below (Kd.V_t HO_579003.out) hb); have n2_ := Aside0.mk (Kd.N_below (Kd.N_t HO586.out) hb); have n3_ := Aside0.mk (Kd.N_below (Kd.N_t HO592.out) hb); have n4_ := Aside0.mk (blk_below (bT BK577.out) hb); have n5_ := Aside0.mk (blk_below (bT BK578.out) hb); have n6_ := Aside0.mk (blk_below (bT BK593.out) hb); have n7_ := Aside0.mk (below_step (by repeat (with_reducible first | exact HB.out | apply below_alloc | apply pw_below_drewN | apply below_drew1 | refine below_set ?_ GE577.out | refine below_set ?_ GE578.out | refine below_set ?_ GE593.out)) hb); clear HO_578003; clear HO_579003; clear HO586; clear HO592; clear BK577; clear BK578; clear BK593; clear HB; have HO_578003 := n0_; have HO_579003 := n1_; have HO586 := n2_; have HO592 := n3_; have BK577 := n4_; have BK578 := n5_; have BK593 := n6_; have HB := n7_; clear n0_ n1_ n2_ n3_ n4_ n5_ n6_ n7_; (try clear hb); (try clear hb2); (try clear hk); (try clear hi); have hcz51_0 : w50.cell? ⟨gb593, 0, none⟩ = some (.int .i64 t587) := (blk_cell BK593.out 0).trans rfl; have hcz51_1 : w50.cell? ⟨gb593, 1, none⟩ = some (.string t588) := (blk_cell BK593.out 1).trans rfl; have hcz51_2 : w50.cell? ⟨gb593, 2, none⟩ = some (.int .i64 t589) := (blk_cell BK593.out 2).trans rfl; have hcz51_3 : w50.cell? ⟨gb593, 3, none⟩ = some (.slice Ao45 t590.length co45) := (blk_cell BK593.out 3).trans rfl; have hfz51_0 := blk_frozen BK593.out 0; have hfz51_1 := blk_frozen BK593.out 1; have hfz51_2 := blk_frozen BK593.out 2; have hfz51_3 := blk_frozen BK593.out 3) | ((with_reducible refine gate_callee (f := 19) rfl ?_); refine goesL_ (some 65) rfl rfl Try.func19 (by kernel_rfl) rfl #[.agg #[.int .i64 t587, .string t588, .int .i64 t589, .slice Ao45 t590.length co45]] rfl (by (try simp only [List.map_toArray, List.map_cons, List.map_nil]); first | done | rfl | (simp only [List.length_drop, List.length_take]; rfl)) ?_; (with_reducible refine (prettydoc_Flat.calls kj3 t587 t588 t589 _ _ t590 t603 t604 _ ?side1 ?side2 A29.out).mono ?_); (case side1 => repeat (first | exact (Kd.N_reads' HO592.out).2.2 | (with_reducible refine Kd.C_alloc ?_ _) | (with_reducible refine Kd.C_drewN ?_ _) | (with_reducible refine Kd.C_drew ?_))); (case side2 => exact (Kd.N_reads' HO592.out).2.1); rintro e w52 ⟨rfl, hb⟩; refine ⟨_, rfl, ?_⟩; have n0_ := Aside0.mk (Kd.V_below (Kd.V_t HO_578003.out) hb); have n1_ := Aside0.mk (Kd.V_below (Kd.V_t HO_579003.out) hb); have n2_ := Aside0.mk (Kd.N_below (Kd.N_t HO586.out) hb); have n3_ := Aside0.mk (Kd.N_below (Kd.N_t HO592.out) hb); have n4_ := Aside0.mk (blk_below (bT BK577.out) hb); have n5_ := Aside0.mk (blk_below (bT BK578.out) hb); have n6_ := Aside0.mk (blk_below (bT BK593.out) hb); have n7_ := Aside0.mk (below_step (by repeat (with_reducible first | exact HB.out | apply below_alloc | apply pw_below_drewN | apply below_drew1 | refine below_set ?_ GE577.out | refine below_set ?_ GE578.out | refine below_set ?_ GE593.out)) hb); clear HO_578003; clear HO_579003; clear HO586; clear HO592; clear BK577; clear BK578; clear BK593; clear HB; have HO_578003 := n0_; have HO_579003 := n1_; have HO586 := n2_; have HO592 := n3_; have BK577 := n4_; have BK578 := n5_; have BK593 := n6_; have HB := n7_; clear n0_ n1_ n2_ n3_ n4_ n5_ n6_ n7_; (try clear hb); (try clear hb2); (try clear hk); (try clear hi); have hcz53_0 : w52.cell? ⟨gb577, 0, none⟩ = some (.int .i64 a0_0) := (blk_cell BK577.out 0).trans rfl; have hcz53_1 : w52.cell? ⟨gb577, 1, none⟩ = some (.string a0_1) := (blk_cell BK577.out 1).trans rfl; have hcz53_2 : w52.cell? ⟨gb577, 2, none⟩ = some (.int .i64 a0_2) := (blk_cell BK577.out 2).trans rfl; have hcz53_3 : w52.cell? ⟨gb577, 3, none⟩ = some (.slice A0_3 l0_3.length c0_3) := (blk_cell BK577.out 3).trans rfl; have hfz53_0 := blk_frozen BK577.out 0; have hfz53_1 := blk_frozen BK577.out 1; have hfz53_2 := blk_frozen BK577.out 2; have hfz53_3 := blk_frozen BK577.out 3) | ((with_reducible refine gate_callee (f := 21) rfl ?_); refine goesL_ (some 73) rfl rfl Try.func21 (by kernel_rfl) rfl #[.int .i64 (Int.tmod (wrap64 (a2)) 100), .agg #[.int .i64 a0_0, .string a0_1, .int .i64 a0_2, .slice A0_3 l0_3.length c0_3]] rfl (by (try simp only [List.map_toArray, List.map_cons, List.map_nil]); first | done | rfl | (simp only [List.length_drop, List.length_take]; rfl)) ?_; (with_reducible refine (prettydoc_Nest.calls kj3 (Int.tmod (wrap64 (a2)) 100) a0_0 a0_1 a0_2 _ _ l0_3 t605 t606 t607 t608 _ ?side1 ?side2 A30.out).mono ?_); (case side1 => repeat (first | exact (Kd.V_reads' HO_578003.out).2.2 | (with_reducible refine Kd.C_alloc ?_ _) | (with_reducible refine Kd.C_drewN ?_ _) | (with_reducible refine Kd.C_drew ?_))); (case side2 => exact (Kd.V_reads' HO_578003.out).2.1); rintro e w54 ⟨v609, rfl, ho0, hb⟩; refine ⟨_, rfl, ?_⟩; have n0_ := Aside0.mk (Kd.V_elder' (Kd.V_t HO_578003.out) (by first | exact Kd.N_base ho0 | exact Kd.R_base ho0 | exact Kd.S_base ho0 | exact Kd.Q_base ho0) hb); have n1_ := Aside0.mk (Kd.V_elder' (Kd.V_t HO_579003.out) (by first | exact Kd.N_base ho0 | exact Kd.R_base ho0 | exact Kd.S_base ho0 | exact Kd.Q_base ho0) hb); have n2_ := Aside0.mk (Kd.N_elder' (Kd.N_t HO586.out) (by first | exact Kd.N_base ho0 | exact Kd.R_base ho0 | exact Kd.S_base ho0 | exact Kd.Q_base ho0) hb); have n3_ := Aside0.mk (Kd.N_elder' (Kd.N_t HO592.out) (by first | exact Kd.N_base ho0 | exact Kd.R_base ho0 | exact Kd.S_base ho0 | exact Kd.Q_base ho0) hb); have n4_ := Aside0.mk (Kd.N_lower (Kd.N_mono (ok' := fun k_ => ((P0_3_ k_ ∨ P1_3_ k_) ∨ w.heap.size ≤ k_) ∧ some k_ ≠ (.slice Ao39 y584.length co39 : Value).ownBlock ∧ some k_ ≠ (.slice Ao45 t590.length co45 : Value).ownBlock ∧ k_ ≠ gb577 ∧ k_ ≠ gb578 ∧ k_ ≠ gb593) ho0 (fun k_ hk_ => ⟨(.inr (Nat.le_trans (below_size (by repeat (with_reducible first | exact HB.out | apply below_alloc | apply pw_below_drewN | apply below_drew1 | refine below_set ?_ GE577.out | refine below_set ?_ GE578.out | refine below_set ?_ GE593.out))) hk_)), (Kd.fresh' (Kd.N_lt (Kd.N_t HO586.out)) k_ hk_), (Kd.fresh' (Kd.N_lt (Kd.N_t HO592.out)) k_ hk_), (Kd.freshB (bT BK577.out) k_ hk_), (Kd.freshB (bT BK578.out) k_ hk_), (Kd.freshB (bT BK593.out) k_ hk_)⟩)) (below_size (by repeat (with_reducible first | exact HB.out | apply below_alloc | apply pw_below_drewN | apply below_drew1 | refine below_set ?_ GE577.out | refine below_set ?_ GE578.out | refine below_set ?_ GE593.out)))); have n5_ := Aside0.mk (blk_below (bT BK577.out) hb); have n6_ := Aside0.mk (blk_below (bT BK578.out) hb); have n7_ := Aside0.mk (blk_below (bT BK593.out) hb); have n8_ := Aside0.mk (below_step (by repeat (with_reducible first | exact HB.out | apply below_alloc | apply pw_below_drewN | apply below_drew1 | refine below_set ?_ GE577.out | refine below_set ?_ GE578.out | refine below_set ?_ GE593.out)) hb); clear HO_578003; clear HO_579003; clear HO586; clear HO592; clear BK577; clear BK578; clear BK593; clear HB; have HO_578003 := n0_; have HO_579003 := n1_; have HO586 := n2_; have HO592 := n3_; have HO610 := n4_; have BK577 := n5_; have BK578 := n6_; have BK593 := n7_; have HB := n8_; clear n0_ n1_ n2_ n3_ n4_ n5_ n6_ n7_ n8_; (try clear hb); (try clear hb2); (try clear hk); (try clear hi); (try clear ho0); obtain ⟨Ao55, co55, eo55⟩ := Kd.N_slice HO610.out; subst eo55) | ((with_reducible refine gate_callee (f := 23) rfl ?_); refine goesL_ (some 74) rfl rfl Try.func23 (by kernel_rfl) rfl #[.agg #[.int .i64 t605, .string t606, .int .i64 t607, .slice Ao55 t608.length co55]] rfl (by (try simp only [List.map_toArray, List.map_cons, List.map_nil]); first | done | rfl | (simp only [List.length_drop, List.length_take]; rfl)) ?_; (with_reducible refine (prettydoc_Group.calls kj3 t605 t606 t607 _ _ t608 t611 t612 t613 t614 _ ?side1 ?side2 A31.out).mono ?_); (case side1 => repeat (first | exact (Kd.N_reads' HO610.out).2.2 | (with_reducible refine Kd.C_alloc ?_ _) | (with_reducible refine Kd.C_drewN ?_ _) | (with_reducible refine Kd.C_drew ?_))); (case side2 => exact (Kd.N_reads' HO610.out).2.1); rintro e w56 ⟨v615, rfl, ho0, hb⟩; refine ⟨_, rfl, ?_⟩; have n0_ := Aside0.mk (Kd.V_elder' (Kd.V_t HO_578003.out) (by first | exact Kd.N_base ho0 | exact Kd.R_base ho0 | exact Kd.S_base ho0 | exact Kd.Q_base ho0) hb); have n1_ := Aside0.mk (Kd.V_elder' (Kd.V_t HO_579003.out) (by first | exact Kd.N_base ho0 | exact Kd.R_base ho0 | exact Kd.S_base ho0 | exact Kd.Q_base ho0) hb); have n2_ := Aside0.mk (Kd.N_elder' (Kd.N_t HO586.out) (by first | exact Kd.N_base ho0 | exact Kd.R_base ho0 | exact Kd.S_base ho0 | exact Kd.Q_base ho0) hb); have n3_ := Aside0.mk (Kd.N_elder' (Kd.N_t HO592.out) (by first | exact Kd.N_base ho0 | exact Kd.R_base ho0 | exact Kd.S_base ho0 | exact Kd.Q_base ho0) hb); have n4_ := Aside0.mk (Kd.N_elder' (Kd.N_t HO610.out) (by first | exact Kd.N_base ho0 | exact Kd.R_base ho0 | exact Kd.S_base ho0 | exact Kd.Q_base ho0) hb); have n5_ := Aside0.mk (Kd.N_lower (Kd.N_mono (ok' := fun k_ => ((P0_3_ k_ ∨ P1_3_ k_) ∨ w.heap.size ≤ k_) ∧ some k_ ≠ (.slice Ao39 y584.length co39 : Value).ownBlock ∧ some k_ ≠ (.slice Ao45 t590.length co45 : Value).ownBlock ∧ some k_ ≠ (.slice Ao55 t608.length co55 : Value).ownBlock ∧ k_ ≠ gb577 ∧ k_ ≠ gb578 ∧ k_ ≠ gb593) ho0 (fun k_ hk_ => ⟨(.inr (Nat.le_trans (below_size (by repeat (with_reducible first | exact HB.out | apply below_alloc | apply pw_below_drewN | apply below_drew1 | refine below_set ?_ GE577.out | refine below_set ?_ GE578.out | refine below_set ?_ GE593.out))) hk_)), (Kd.fresh' (Kd.N_lt (Kd.N_t HO586.out)) k_ hk_), (Kd.fresh' (Kd.N_lt (Kd.N_t HO592.out)) k_ hk_), (Kd.fresh' (Kd.N_lt (Kd.N_t HO610.out)) k_ hk_), (Kd.freshB (bT BK577.out) k_ hk_), (Kd.freshB (bT BK578.out) k_ hk_), (Kd.freshB (bT BK593.out) k_ hk_)⟩)) (below_size (by repeat (with_reducible first | exact HB.out | apply below_alloc | apply pw_below_drewN | apply below_drew1 | refine below_set ?_ GE577.out | refine below_set ?_ GE578.out | refine below_set ?_ GE593.out)))); have n6_ := Aside0.mk (blk_below (bT BK577.out) hb); have n7_ := Aside0.mk (blk_below (bT BK578.out) hb); have n8_ := Aside0.mk (blk_below (bT BK593.out) hb); have n9_ := Aside0.mk (below_step (by repeat (with_reducible first | exact HB.out | apply below_alloc | apply pw_below_drewN | apply below_drew1 | refine below_set ?_ GE577.out | refine below_set ?_ GE578.out | refine below_set ?_ GE593.out)) hb); clear HO_578003; clear HO_579003; clear HO586; clear HO592; clear HO610; clear BK577; clear BK578; clear BK593; clear HB; have HO_578003 := n0_; have HO_579003 := n1_; have HO586 := n2_; have HO592 := n3_; have HO610 := n4_; have HO616 := n5_; have BK577 := n6_; have BK578 := n7_; have BK593 := n8_; have HB := n9_; clear n0_ n1_ n2_ n3_ n4_ n5_ n6_ n7_ n8_ n9_; (try clear hb); (try clear hb2); (try clear hk); (try clear hi); (try clear ho0); obtain ⟨Ao57, co57, eo57⟩ := Kd.N_slice HO616.out; subst eo57) | ((with_reducible refine gate_callee (f := 19) rfl ?_); refine goesL_ (some 75) rfl rfl Try.func19 (by kernel_rfl) rfl #[.agg #[.int .i64 t611, .string t612, .int .i64 t613, .slice Ao57 t614.length co57]] rfl (by (try simp only [List.map_toArray, List.map_cons, List.map_nil]); first | done | rfl | (simp only [List.length_drop, List.length_take]; rfl)) ?_; (with_reducible refine (prettydoc_Flat.calls kj3 t611 t612 t613 _ _ t614 t617 t618 _ ?side1 ?side2 A32.out).mono ?_); (case side1 => repeat (first | exact (Kd.N_reads' HO616.out).2.2 | (with_reducible refine Kd.C_alloc ?_ _) | (with_reducible refine Kd.C_drewN ?_ _) | (with_reducible refine Kd.C_drew ?_))); (case side2 => exact (Kd.N_reads' HO616.out).2.1); rintro e w58 ⟨rfl, hb⟩; refine ⟨_, rfl, ?_⟩; have n0_ := Aside0.mk (Kd.V_below (Kd.V_t HO_578003.out) hb); have n1_ := Aside0.mk (Kd.V_below (Kd.V_t HO_579003.out) hb); have n2_ := Aside0.mk (Kd.N_below (Kd.N_t HO586.out) hb); have n3_ := Aside0.mk (Kd.N_below (Kd.N_t HO592.out) hb); have n4_ := Aside0.mk (Kd.N_below (Kd.N_t HO610.out) hb); have n5_ := Aside0.mk (Kd.N_below (Kd.N_t HO616.out) hb); have n6_ := Aside0.mk (blk_below (bT BK577.out) hb); have n7_ := Aside0.mk (blk_below (bT BK578.out) hb); have n8_ := Aside0.mk (blk_below (bT BK593.out) hb); have n9_ := Aside0.mk (below_step (by repeat (with_reducible first | exact HB.out | apply below_alloc | apply pw_below_drewN | apply below_drew1 | refine below_set ?_ GE577.out | refine below_set ?_ GE578.out | refine below_set ?_ GE593.out)) hb); clear HO_578003; clear HO_579003; clear HO586; clear HO592; clear HO610; clear HO616; clear BK577; clear BK578; clear BK593; clear HB; have HO_578003 := n0_; have HO_579003 := n1_; have HO586 := n2_; have HO592 := n3_; have HO610 := n4_; have HO616 := n5_; have BK577 := n6_; have BK578 := n7_; have BK593 := n8_; have HB := n9_; clear n0_ n1_ n2_ n3_ n4_ n5_ n6_ n7_ n8_ n9_; (try clear hb); (try clear hb2); (try clear hk); (try clear hi)))
     (try simp only [Act.put, List.setIfInBounds_toArray, List.set_cons_zero, List.set_cons_succ])
     go_cut [110] (fun v110 wc => ∃ (kq : Nat) (x110_32 : Bool), v110 = .bool x110_32 ∧ Aside0 (arboristlaw54_PrettydocJoins_v2.j1 kq x110_32 a0_0 a0_1 a0_2 l0_3 a1_0 a1_1 a1_2 l1_3 t587 t588 t589 t590 = some r) ∧ Aside0 (kq ≤ kj3) ∧ Aside0 (Kd.V k25 25 wc w.heap.size (fun k_ => ((P0_3_ k_ ∨ P1_3_ k_) ∨ w.heap.size ≤ k_) ∧ some k_ ≠ ((.slice Ao45 t590.length co45) : Value).ownBlock ∧ k_ ≠ gb577 ∧ k_ ≠ gb578 ∧ k_ ≠ gb593) (.slice A0_3 l0_3.length c0_3) l0_3) ∧ Aside0 (Kd.V k25 25 wc w.heap.size (fun k_ => ((P0_3_ k_ ∨ P1_3_ k_) ∨ w.heap.size ≤ k_) ∧ some k_ ≠ ((.slice Ao45 t590.length co45) : Value).ownBlock ∧ k_ ≠ gb577 ∧ k_ ≠ gb578 ∧ k_ ≠ gb593) (.slice A1_3 l1_3.length c1_3) l1_3) ∧ Aside0 (Kd.N k25 25 wc w.heap.size (fun k_ => ((P0_3_ k_ ∨ P1_3_ k_) ∨ w.heap.size ≤ k_) ∧ k_ ≠ gb577 ∧ k_ ≠ gb578 ∧ k_ ≠ gb593) (.slice Ao45 t590.length co45) t590) ∧ Aside0 (wc.heap[gb577]? = some (.cells #[.int .i64 a0_0, .string a0_1, .int .i64 a0_2, (.slice A0_3 l0_3.length c0_3)] 25 (0, 0))) ∧ Aside0 (wc.heap[gb578]? = some (.cells #[.int .i64 a1_0, .string a1_1, .int .i64 a1_2, (.slice A1_3 l1_3.length c1_3)] 25 (0, 0))) ∧ Aside0 (wc.heap[gb593]? = some (.cells #[.int .i64 t587, .string t588, .int .i64 t589, (.slice Ao45 t590.length co45)] 25 (0, 0))) ∧ Aside0 (Below w.heap.size w wc))
     case first =>
      have H := HC33.out
      clear HC33
      by_cases c59 : t600 = true
      ·subst c59
       have H1 : (if (t604 != t602) = true then (none) else (if t604 = true then (if t599.size + t601.size ≤ 9223372036854775807 then (if t603.toList = (t599 ++ t601).toList then ((prettydoc_Nest.f kj3 1 a0_0 a0_1 a0_2 l0_3).bind fun bt619 => ((prettydoc_Group.f kj3 bt619.1 bt619.2.1 bt619.2.2.1 bt619.2.2.2).bind fun bt625 => ((prettydoc_Right.f kj3 bt625.1 bt625.2.1 bt625.2.2.1 bt625.2.2.2).bind fun t631 => (if t631 = 0 then (if (t618 != true) = true then (none) else (arboristlaw54_PrettydocJoins_v2.j1 kj3 (t617.toList != t599.toList) a0_0 a0_1 a0_2 l0_3 a1_0 a1_1 a1_2 l1_3 t587 t588 t589 t590)) else (arboristlaw54_PrettydocJoins_v2.j1 kj3 false a0_0 a0_1 a0_2 l0_3 a1_0 a1_1 a1_2 l1_3 t587 t588 t589 t590))))) else (none)) else (none)) else ((prettydoc_Nest.f kj3 1 a0_0 a0_1 a0_2 l0_3).bind fun bt632 => ((prettydoc_Group.f kj3 bt632.1 bt632.2.1 bt632.2.2.1 bt632.2.2.2).bind fun bt638 => ((prettydoc_Right.f kj3 bt638.1 bt638.2.1 bt638.2.2.1 bt638.2.2.2).bind fun t644 => (if t644 = 0 then (if (t618 != true) = true then (none) else (arboristlaw54_PrettydocJoins_v2.j1 kj3 (t617.toList != t599.toList) a0_0 a0_1 a0_2 l0_3 a1_0 a1_1 a1_2 l1_3 t587 t588 t589 t590)) else (arboristlaw54_PrettydocJoins_v2.j1 kj3 false a0_0 a0_1 a0_2 l0_3 a1_0 a1_1 a1_2 l1_3 t587 t588 t589 t590))))))) = some r := by rw [if_pos rfl] at H; exact H
       clear H
       have H := H1
       clear H1
       by_cases c60 : (t604 != t602) = true
       ·rw [if_pos c60] at H
        exact absurd H (by simp)
       ·rw [if_neg c60] at H
        have c60b0 : (t604 != t602) = false := by simpa using c60
        (try (have c60b1 : decide (t604 = t602) = true := by simpa using c60))
        (try (have c60b2 : (t604 == t602) = true := by simpa using c60))
        clear c60
        (first | rw [c60b0] | (simp only [i64_w, i32_w]; rw [c60b0]) | skip)
        by_cases c61 : t604 = true
        ·subst c61
         have H1 : (if t599.size + t601.size ≤ 9223372036854775807 then (if t603.toList = (t599 ++ t601).toList then ((prettydoc_Nest.f kj3 1 a0_0 a0_1 a0_2 l0_3).bind fun bt619 => ((prettydoc_Group.f kj3 bt619.1 bt619.2.1 bt619.2.2.1 bt619.2.2.2).bind fun bt625 => ((prettydoc_Right.f kj3 bt625.1 bt625.2.1 bt625.2.2.1 bt625.2.2.2).bind fun t631 => (if t631 = 0 then (if (t618 != true) = true then (none) else (arboristlaw54_PrettydocJoins_v2.j1 kj3 (t617.toList != t599.toList) a0_0 a0_1 a0_2 l0_3 a1_0 a1_1 a1_2 l1_3 t587 t588 t589 t590)) else (arboristlaw54_PrettydocJoins_v2.j1 kj3 false a0_0 a0_1 a0_2 l0_3 a1_0 a1_1 a1_2 l1_3 t587 t588 t589 t590))))) else (none)) else (none)) = some r := by rw [if_pos rfl] at H; exact H
         clear H
         have H := H1
         clear H1
         by_cases c62 : t599.size + t601.size ≤ 9223372036854775807
         ·rw [if_pos c62] at H
          have c62b0 := eq_true c62
          have c62b1 : decide (t599.size + t601.size ≤ 9223372036854775807) = true := decide_eq_true c62
          try have c62b2 : (9223372036854775807 < t599.size + t601.size) = False := eq_false (Nat.not_lt.2 c62)
          by_cases c63 : t603.toList = (t599 ++ t601).toList
          ·rw [if_pos c63] at H
           have c63b0 : (t603.toList == (t599 ++ t601).toList) = true := beq_iff_eq.mpr c63
           have c63b1 : (t603.toList != (t599 ++ t601).toList) = false := bne_eq_false_iff_eq.mpr c63
           clear c63
           replace H := Option.bind_eq_some_iff.mp H
           obtain ⟨⟨t619, t620, t621, t622⟩, A640, H⟩ := H
           replace H : ((prettydoc_Group.f kj3 t619 t620 t621 t622).bind fun bt625 => ((prettydoc_Right.f kj3 bt625.1 bt625.2.1 bt625.2.2.1 bt625.2.2.2).bind fun t631 => (if t631 = 0 then (if (t618 != true) = true then (none) else (arboristlaw54_PrettydocJoins_v2.j1 kj3 (t617.toList != t599.toList) a0_0 a0_1 a0_2 l0_3 a1_0 a1_1 a1_2 l1_3 t587 t588 t589 t590)) else (arboristlaw54_PrettydocJoins_v2.j1 kj3 false a0_0 a0_1 a0_2 l0_3 a1_0 a1_1 a1_2 l1_3 t587 t588 t589 t590)))) = some r := H
           have A64 := Aside0.mk A640
           clear A640
           replace H := Option.bind_eq_some_iff.mp H
           obtain ⟨⟨t625, t626, t627, t628⟩, A650, H⟩ := H
           replace H : ((prettydoc_Right.f kj3 t625 t626 t627 t628).bind fun t631 => (if t631 = 0 then (if (t618 != true) = true then (none) else (arboristlaw54_PrettydocJoins_v2.j1 kj3 (t617.toList != t599.toList) a0_0 a0_1 a0_2 l0_3 a1_0 a1_1 a1_2 l1_3 t587 t588 t589 t590)) else (arboristlaw54_PrettydocJoins_v2.j1 kj3 false a0_0 a0_1 a0_2 l0_3 a1_0 a1_1 a1_2 l1_3 t587 t588 t589 t590))) = some r := H
           have A65 := Aside0.mk A650
           clear A650
           replace H := Option.bind_eq_some_iff.mp H
           obtain ⟨t631, A660, H⟩ := H
           replace H : (if t631 = 0 then (if (t618 != true) = true then (none) else (arboristlaw54_PrettydocJoins_v2.j1 kj3 (t617.toList != t599.toList) a0_0 a0_1 a0_2 l0_3 a1_0 a1_1 a1_2 l1_3 t587 t588 t589 t590)) else (arboristlaw54_PrettydocJoins_v2.j1 kj3 false a0_0 a0_1 a0_2 l0_3 a1_0 a1_1 a1_2 l1_3 t587 t588 t589 t590)) = some r := H
           have A66 := Aside0.mk A660
           clear A660
           by_cases c67 : t631 = 0
           ·rw [if_pos c67] at H
            have c67b0 : (t631 == 0) = true := beq_iff_eq.mpr c67
            have c67b1 : (t631 != 0) = false := bne_eq_false_iff_eq.mpr c67
            clear c67
            by_cases c68 : (t618 != true) = true
            ·rw [if_pos c68] at H
             exact absurd H (by simp)
            ·rw [if_neg c68] at H
             have c68b0 : (t618 != true) = false := by simpa using c68
             (try (have c68b1 : decide (t618 = true) = true := by simpa using c68))
             (try (have c68b2 : (t618 == true) = true := by simpa using c68))
             clear c68
             have H' := Aside0.mk H
             clear H
             have hnb69 := NB577_578.out
             have hnc69 := NB578_577.out
             have hnb70 := NB577_593.out
             have hnc70 := NB593_577.out
             have hcz71_0 : w58.cell? ⟨gb577, 0, none⟩ = some (.int .i64 a0_0) := (blk_cell BK577.out 0).trans rfl
             have hcz71_1 : w58.cell? ⟨gb577, 1, none⟩ = some (.string a0_1) := (blk_cell BK577.out 1).trans rfl
             have hcz71_2 : w58.cell? ⟨gb577, 2, none⟩ = some (.int .i64 a0_2) := (blk_cell BK577.out 2).trans rfl
             have hcz71_3 : w58.cell? ⟨gb577, 3, none⟩ = some (.slice A0_3 l0_3.length c0_3) := (blk_cell BK577.out 3).trans rfl
             have hfz71_0 := blk_frozen BK577.out 0
             have hfz71_1 := blk_frozen BK577.out 1
             have hfz71_2 := blk_frozen BK577.out 2
             have hfz71_3 := blk_frozen BK577.out 3
             go_wp2_with (first | (go_at_call 21; (with_reducible refine (prettydoc_Nest.calls kj3 1 a0_0 a0_1 a0_2 _ _ l0_3 t619 t620 t621 t622 _ ?side1 ?side2 A64.out).mono ?_); (case side1 => repeat (first | exact (Kd.V_reads' HO_578003.out).2.2 | (with_reducible refine Kd.C_alloc ?_ _) | (with_reducible refine Kd.C_drewN ?_ _) | (with_reducible refine Kd.C_drew ?_))); (case side2 => exact (Kd.V_reads' HO_578003.out).2.1); rintro e w72 ⟨v623, rfl, ho0, hb⟩; have n0_ := Aside0.mk (Kd.V_elder' (Kd.V_t HO_578003.out) (by first | exact Kd.N_base ho0 | exact Kd.R_base ho0 | exact Kd.S_base ho0 | exact Kd.Q_base ho0) hb); have n1_ := Aside0.mk (Kd.V_elder' (Kd.V_t HO_579003.out) (by first | exact Kd.N_base ho0 | exact Kd.R_base ho0 | exact Kd.S_base ho0 | exact Kd.Q_base ho0) hb); have n2_ := Aside0.mk (Kd.N_elder' (Kd.N_t HO586.out) (by first | exact Kd.N_base ho0 | exact Kd.R_base ho0 | exact Kd.S_base ho0 | exact Kd.Q_base ho0) hb); have n3_ := Aside0.mk (Kd.N_elder' (Kd.N_t HO592.out) (by first | exact Kd.N_base ho0 | exact Kd.R_base ho0 | exact Kd.S_base ho0 | exact Kd.Q_base ho0) hb); have n4_ := Aside0.mk (Kd.N_elder' (Kd.N_t HO610.out) (by first | exact Kd.N_base ho0 | exact Kd.R_base ho0 | exact Kd.S_base ho0 | exact Kd.Q_base ho0) hb); have n5_ := Aside0.mk (Kd.N_elder' (Kd.N_t HO616.out) (by first | exact Kd.N_base ho0 | exact Kd.R_base ho0 | exact Kd.S_base ho0 | exact Kd.Q_base ho0) hb); have n6_ := Aside0.mk (Kd.N_lower (Kd.N_mono (ok' := fun k_ => ((P0_3_ k_ ∨ P1_3_ k_) ∨ w.heap.size ≤ k_) ∧ some k_ ≠ (.slice Ao39 y584.length co39 : Value).ownBlock ∧ some k_ ≠ (.slice Ao45 t590.length co45 : Value).ownBlock ∧ some k_ ≠ (.slice Ao55 t608.length co55 : Value).ownBlock ∧ some k_ ≠ (.slice Ao57 t614.length co57 : Value).ownBlock ∧ k_ ≠ gb577 ∧ k_ ≠ gb578 ∧ k_ ≠ gb593) ho0 (fun k_ hk_ => ⟨(.inr (Nat.le_trans (below_size (by repeat (with_reducible first | exact HB.out | apply below_alloc | apply pw_below_drewN | apply below_drew1 | refine below_set ?_ GE577.out | refine below_set ?_ GE578.out | refine below_set ?_ GE593.out))) hk_)), (Kd.fresh' (Kd.N_lt (Kd.N_t HO586.out)) k_ hk_), (Kd.fresh' (Kd.N_lt (Kd.N_t HO592.out)) k_ hk_), (Kd.fresh' (Kd.N_lt (Kd.N_t HO610.out)) k_ hk_), (Kd.fresh' (Kd.N_lt (Kd.N_t HO616.out)) k_ hk_), (Kd.freshB (bT BK577.out) k_ hk_), (Kd.freshB (bT BK578.out) k_ hk_), (Kd.freshB (bT BK593.out) k_ hk_)⟩)) (below_size (by repeat (with_reducible first | exact HB.out | apply below_alloc | apply pw_below_drewN | apply below_drew1 | refine below_set ?_ GE577.out | refine below_set ?_ GE578.out | refine below_set ?_ GE593.out)))); have n7_ := Aside0.mk (blk_below (bT BK577.out) hb); have n8_ := Aside0.mk (blk_below (bT BK578.out) hb); have n9_ := Aside0.mk (blk_below (bT BK593.out) hb); have n10_ := Aside0.mk (below_step (by repeat (with_reducible first | exact HB.out | apply below_alloc | apply pw_below_drewN | apply below_drew1 | refine below_set ?_ GE577.out | refine below_set ?_ GE578.out | refine below_set ?_ GE593.out)) hb); clear HO_578003; clear HO_579003; clear HO586; clear HO592; clear HO610; clear HO616; clear BK577; clear BK578; clear BK593; clear HB; have HO_578003 := n0_; have HO_579003 := n1_; have HO586 := n2_; have HO592 := n3_; have HO610 := n4_; have HO616 := n5_; have HO624 := n6_; have BK577 := n7_; have BK578 := n8_; have BK593 := n9_; have HB := n10_; clear n0_ n1_ n2_ n3_ n4_ n5_ n6_ n7_ n8_ n9_ n10_; (try clear hb); (try clear hb2); (try clear hk); (try clear hi); (try clear ho0); obtain ⟨Ao73, co73, eo73⟩ := Kd.N_slice HO624.out; subst eo73) | (go_at_call 23; (with_reducible refine (prettydoc_Group.calls kj3 t619 t620 t621 _ _ t622 t625 t626 t627 t628 _ ?side1 ?side2 A65.out).mono ?_); (case side1 => repeat (first | exact (Kd.N_reads' HO624.out).2.2 | (with_reducible refine Kd.C_alloc ?_ _) | (with_reducible refine Kd.C_drewN ?_ _) | (with_reducible refine Kd.C_drew ?_))); (case side2 => exact (Kd.N_reads' HO624.out).2.1); rintro e w74 ⟨v629, rfl, ho0, hb⟩; have n0_ := Aside0.mk (Kd.V_elder' (Kd.V_t HO_578003.out) (by first | exact Kd.N_base ho0 | exact Kd.R_base ho0 | exact Kd.S_base ho0 | exact Kd.Q_base ho0) hb); have n1_ := Aside0.mk (Kd.V_elder' (Kd.V_t HO_579003.out) (by first | exact Kd.N_base ho0 | exact Kd.R_base ho0 | exact Kd.S_base ho0 | exact Kd.Q_base ho0) hb); have n2_ := Aside0.mk (Kd.N_elder' (Kd.N_t HO586.out) (by first | exact Kd.N_base ho0 | exact Kd.R_base ho0 | exact Kd.S_base ho0 | exact Kd.Q_base ho0) hb); have n3_ := Aside0.mk (Kd.N_elder' (Kd.N_t HO592.out) (by first | exact Kd.N_base ho0 | exact Kd.R_base ho0 | exact Kd.S_base ho0 | exact Kd.Q_base ho0) hb); have n4_ := Aside0.mk (Kd.N_elder' (Kd.N_t HO610.out) (by first | exact Kd.N_base ho0 | exact Kd.R_base ho0 | exact Kd.S_base ho0 | exact Kd.Q_base ho0) hb); have n5_ := Aside0.mk (Kd.N_elder' (Kd.N_t HO616.out) (by first | exact Kd.N_base ho0 | exact Kd.R_base ho0 | exact Kd.S_base ho0 | exact Kd.Q_base ho0) hb); have n6_ := Aside0.mk (Kd.N_elder' (Kd.N_t HO624.out) (by first | exact Kd.N_base ho0 | exact Kd.R_base ho0 | exact Kd.S_base ho0 | exact Kd.Q_base ho0) hb); have n7_ := Aside0.mk (Kd.N_lower (Kd.N_mono (ok' := fun k_ => ((P0_3_ k_ ∨ P1_3_ k_) ∨ w.heap.size ≤ k_) ∧ some k_ ≠ (.slice Ao39 y584.length co39 : Value).ownBlock ∧ some k_ ≠ (.slice Ao45 t590.length co45 : Value).ownBlock ∧ some k_ ≠ (.slice Ao55 t608.length co55 : Value).ownBlock ∧ some k_ ≠ (.slice Ao57 t614.length co57 : Value).ownBlock ∧ some k_ ≠ (.slice Ao73 t622.length co73 : Value).ownBlock ∧ k_ ≠ gb577 ∧ k_ ≠ gb578 ∧ k_ ≠ gb593) ho0 (fun k_ hk_ => ⟨(.inr (Nat.le_trans (below_size (by repeat (with_reducible first | exact HB.out | apply below_alloc | apply pw_below_drewN | apply below_drew1 | refine below_set ?_ GE577.out | refine below_set ?_ GE578.out | refine below_set ?_ GE593.out))) hk_)), (Kd.fresh' (Kd.N_lt (Kd.N_t HO586.out)) k_ hk_), (Kd.fresh' (Kd.N_lt (Kd.N_t HO592.out)) k_ hk_), (Kd.fresh' (Kd.N_lt (Kd.N_t HO610.out)) k_ hk_), (Kd.fresh' (Kd.N_lt (Kd.N_t HO616.out)) k_ hk_), (Kd.fresh' (Kd.N_lt (Kd.N_t HO624.out)) k_ hk_), (Kd.freshB (bT BK577.out) k_ hk_), (Kd.freshB (bT BK578.out) k_ hk_), (Kd.freshB (bT BK593.out) k_ hk_)⟩)) (below_size (by repeat (with_reducible first | exact HB.out | apply below_alloc | apply pw_below_drewN | apply below_drew1 | refine below_set ?_ GE577.out | refine below_set ?_ GE578.out | refine below_set ?_ GE593.out)))); have n8_ := Aside0.mk (blk_below (bT BK577.out) hb); have n9_ := Aside0.mk (blk_below (bT BK578.out) hb); have n10_ := Aside0.mk (blk_below (bT BK593.out) hb); have n11_ := Aside0.mk (below_step (by repeat (with_reducible first | exact HB.out | apply below_alloc | apply pw_below_drewN | apply below_drew1 | refine below_set ?_ GE577.out | refine below_set ?_ GE578.out | refine below_set ?_ GE593.out)) hb); clear HO_578003; clear HO_579003; clear HO586; clear HO592; clear HO610; clear HO616; clear HO624; clear BK577; clear BK578; clear BK593; clear HB; have HO_578003 := n0_; have HO_579003 := n1_; have HO586 := n2_; have HO592 := n3_; have HO610 := n4_; have HO616 := n5_; have HO624 := n6_; have HO630 := n7_; have BK577 := n8_; have BK578 := n9_; have BK593 := n10_; have HB := n11_; clear n0_ n1_ n2_ n3_ n4_ n5_ n6_ n7_ n8_ n9_ n10_ n11_; (try clear hb); (try clear hb2); (try clear hk); (try clear hi); (try clear ho0); obtain ⟨Ao75, co75, eo75⟩ := Kd.N_slice HO630.out; subst eo75) | (go_at_call 11; (with_reducible refine (prettydoc_Right.calls kj3 t625 t626 t627 _ _ t628 t631 _ ?side1 ?side2 A66.out).mono ?_); (case side1 => repeat (first | exact (Kd.N_reads' HO630.out).2.2 | (with_reducible refine Kd.C_alloc ?_ _) | (with_reducible refine Kd.C_drewN ?_ _) | (with_reducible refine Kd.C_drew ?_))); (case side2 => exact (Kd.N_reads' HO630.out).2.1); rintro e w76 ⟨rfl, hb⟩; have n0_ := Aside0.mk (Kd.V_below (Kd.V_t HO_578003.out) hb); have n1_ := Aside0.mk (Kd.V_below (Kd.V_t HO_579003.out) hb); have n2_ := Aside0.mk (Kd.N_below (Kd.N_t HO586.out) hb); have n3_ := Aside0.mk (Kd.N_below (Kd.N_t HO592.out) hb); have n4_ := Aside0.mk (Kd.N_below (Kd.N_t HO610.out) hb); have n5_ := Aside0.mk (Kd.N_below (Kd.N_t HO616.out) hb); have n6_ := Aside0.mk (Kd.N_below (Kd.N_t HO624.out) hb); have n7_ := Aside0.mk (Kd.N_below (Kd.N_t HO630.out) hb); have n8_ := Aside0.mk (blk_below (bT BK577.out) hb); have n9_ := Aside0.mk (blk_below (bT BK578.out) hb); have n10_ := Aside0.mk (blk_below (bT BK593.out) hb); have n11_ := Aside0.mk (below_step (by repeat (with_reducible first | exact HB.out | apply below_alloc | apply pw_below_drewN | apply below_drew1 | refine below_set ?_ GE577.out | refine below_set ?_ GE578.out | refine below_set ?_ GE593.out)) hb); clear HO_578003; clear HO_579003; clear HO586; clear HO592; clear HO610; clear HO616; clear HO624; clear HO630; clear BK577; clear BK578; clear BK593; clear HB; have HO_578003 := n0_; have HO_579003 := n1_; have HO586 := n2_; have HO592 := n3_; have HO610 := n4_; have HO616 := n5_; have HO624 := n6_; have HO630 := n7_; have BK577 := n8_; have BK578 := n9_; have BK593 := n10_; have HB := n11_; clear n0_ n1_ n2_ n3_ n4_ n5_ n6_ n7_ n8_ n9_ n10_ n11_; (try clear hb); (try clear hb2); (try clear hk); (try clear hi)))
             go_meet
             case rel => exact ⟨_, ((t617.toList != t599.toList)), (by first | rfl | (simp; done) | (simp [*]; done)), H', ⟨by have := HJ3.out; first | omega | exact Nat.le_refl _⟩, ⟨Kd.V_t (Kd.V_mono HO_578003.out (fun _ hk => ⟨hk.1.1.1.1.1.1.1.1, ⟨hk.1.1.1.1.1.2, ⟨hk.1.1.1.1.1.1.1.2.1, ⟨hk.1.1.1.1.1.1.1.2.2, hk.1.1.1.1.2⟩⟩⟩⟩))⟩, ⟨Kd.V_t (Kd.V_mono HO_579003.out (fun _ hk => ⟨hk.1.1.1.1.1.1.1.1, ⟨hk.1.1.1.1.1.2, ⟨hk.1.1.1.1.1.1.1.2.1, ⟨hk.1.1.1.1.1.1.1.2.2, hk.1.1.1.1.2⟩⟩⟩⟩))⟩, ⟨Kd.N_t (Kd.N_mono HO592.out (fun _ hk => ⟨hk.1.1.1.1.1.1, ⟨hk.1.1.1.1.1.2.2.1, ⟨hk.1.1.1.1.1.2.2.2, hk.1.1.1.1.2⟩⟩⟩))⟩, ⟨bT BK577.out⟩, ⟨bT BK578.out⟩, ⟨bT BK593.out⟩, ⟨by repeat (with_reducible first | exact HB.out | apply below_alloc | apply pw_below_drewN | apply below_drew1 | refine below_set ?_ GE577.out | refine below_set ?_ GE578.out | refine below_set ?_ GE593.out)⟩⟩
           ·rw [if_neg c67] at H
            have c67b0 : (t631 == 0) = false := beq_eq_false_iff_ne.mpr c67
            have c67b1 : (t631 != 0) = true := bne_iff_ne.mpr c67
            have H' := Aside0.mk H
            clear H
            have hnb77 := NB577_578.out
            have hnc77 := NB578_577.out
            have hnb78 := NB577_593.out
            have hnc78 := NB593_577.out
            have hcz79_0 : w58.cell? ⟨gb577, 0, none⟩ = some (.int .i64 a0_0) := (blk_cell BK577.out 0).trans rfl
            have hcz79_1 : w58.cell? ⟨gb577, 1, none⟩ = some (.string a0_1) := (blk_cell BK577.out 1).trans rfl
            have hcz79_2 : w58.cell? ⟨gb577, 2, none⟩ = some (.int .i64 a0_2) := (blk_cell BK577.out 2).trans rfl
            have hcz79_3 : w58.cell? ⟨gb577, 3, none⟩ = some (.slice A0_3 l0_3.length c0_3) := (blk_cell BK577.out 3).trans rfl
            have hfz79_0 := blk_frozen BK577.out 0
            have hfz79_1 := blk_frozen BK577.out 1
            have hfz79_2 := blk_frozen BK577.out 2
            have hfz79_3 := blk_frozen BK577.out 3
            go_wp2_with (first | (go_at_call 21; (with_reducible refine (prettydoc_Nest.calls kj3 1 a0_0 a0_1 a0_2 _ _ l0_3 t619 t620 t621 t622 _ ?side1 ?side2 A64.out).mono ?_); (case side1 => repeat (first | exact (Kd.V_reads' HO_578003.out).2.2 | (with_reducible refine Kd.C_alloc ?_ _) | (with_reducible refine Kd.C_drewN ?_ _) | (with_reducible refine Kd.C_drew ?_))); (case side2 => exact (Kd.V_reads' HO_578003.out).2.1); rintro e w80 ⟨v623, rfl, ho0, hb⟩; have n0_ := Aside0.mk (Kd.V_elder' (Kd.V_t HO_578003.out) (by first | exact Kd.N_base ho0 | exact Kd.R_base ho0 | exact Kd.S_base ho0 | exact Kd.Q_base ho0) hb); have n1_ := Aside0.mk (Kd.V_elder' (Kd.V_t HO_579003.out) (by first | exact Kd.N_base ho0 | exact Kd.R_base ho0 | exact Kd.S_base ho0 | exact Kd.Q_base ho0) hb); have n2_ := Aside0.mk (Kd.N_elder' (Kd.N_t HO586.out) (by first | exact Kd.N_base ho0 | exact Kd.R_base ho0 | exact Kd.S_base ho0 | exact Kd.Q_base ho0) hb); have n3_ := Aside0.mk (Kd.N_elder' (Kd.N_t HO592.out) (by first | exact Kd.N_base ho0 | exact Kd.R_base ho0 | exact Kd.S_base ho0 | exact Kd.Q_base ho0) hb); have n4_ := Aside0.mk (Kd.N_elder' (Kd.N_t HO610.out) (by first | exact Kd.N_base ho0 | exact Kd.R_base ho0 | exact Kd.S_base ho0 | exact Kd.Q_base ho0) hb); have n5_ := Aside0.mk (Kd.N_elder' (Kd.N_t HO616.out) (by first | exact Kd.N_base ho0 | exact Kd.R_base ho0 | exact Kd.S_base ho0 | exact Kd.Q_base ho0) hb); have n6_ := Aside0.mk (Kd.N_lower (Kd.N_mono (ok' := fun k_ => ((P0_3_ k_ ∨ P1_3_ k_) ∨ w.heap.size ≤ k_) ∧ some k_ ≠ (.slice Ao39 y584.length co39 : Value).ownBlock ∧ some k_ ≠ (.slice Ao45 t590.length co45 : Value).ownBlock ∧ some k_ ≠ (.slice Ao55 t608.length co55 : Value).ownBlock ∧ some k_ ≠ (.slice Ao57 t614.length co57 : Value).ownBlock ∧ k_ ≠ gb577 ∧ k_ ≠ gb578 ∧ k_ ≠ gb593) ho0 (fun k_ hk_ => ⟨(.inr (Nat.le_trans (below_size (by repeat (with_reducible first | exact HB.out | apply below_alloc | apply pw_below_drewN | apply below_drew1 | refine below_set ?_ GE577.out | refine below_set ?_ GE578.out | refine below_set ?_ GE593.out))) hk_)), (Kd.fresh' (Kd.N_lt (Kd.N_t HO586.out)) k_ hk_), (Kd.fresh' (Kd.N_lt (Kd.N_t HO592.out)) k_ hk_), (Kd.fresh' (Kd.N_lt (Kd.N_t HO610.out)) k_ hk_), (Kd.fresh' (Kd.N_lt (Kd.N_t HO616.out)) k_ hk_), (Kd.freshB (bT BK577.out) k_ hk_), (Kd.freshB (bT BK578.out) k_ hk_), (Kd.freshB (bT BK593.out) k_ hk_)⟩)) (below_size (by repeat (with_reducible first | exact HB.out | apply below_alloc | apply pw_below_drewN | apply below_drew1 | refine below_set ?_ GE577.out | refine below_set ?_ GE578.out | refine below_set ?_ GE593.out)))); have n7_ := Aside0.mk (blk_below (bT BK577.out) hb); have n8_ := Aside0.mk (blk_below (bT BK578.out) hb); have n9_ := Aside0.mk (blk_below (bT BK593.out) hb); have n10_ := Aside0.mk (below_step (by repeat (with_reducible first | exact HB.out | apply below_alloc | apply pw_below_drewN | apply below_drew1 | refine below_set ?_ GE577.out | refine below_set ?_ GE578.out | refine below_set ?_ GE593.out)) hb); clear HO_578003; clear HO_579003; clear HO586; clear HO592; clear HO610; clear HO616; clear BK577; clear BK578; clear BK593; clear HB; have HO_578003 := n0_; have HO_579003 := n1_; have HO586 := n2_; have HO592 := n3_; have HO610 := n4_; have HO616 := n5_; have HO624 := n6_; have BK577 := n7_; have BK578 := n8_; have BK593 := n9_; have HB := n10_; clear n0_ n1_ n2_ n3_ n4_ n5_ n6_ n7_ n8_ n9_ n10_; (try clear hb); (try clear hb2); (try clear hk); (try clear hi); (try clear ho0); obtain ⟨Ao81, co81, eo81⟩ := Kd.N_slice HO624.out; subst eo81) | (go_at_call 23; (with_reducible refine (prettydoc_Group.calls kj3 t619 t620 t621 _ _ t622 t625 t626 t627 t628 _ ?side1 ?side2 A65.out).mono ?_); (case side1 => repeat (first | exact (Kd.N_reads' HO624.out).2.2 | (with_reducible refine Kd.C_alloc ?_ _) | (with_reducible refine Kd.C_drewN ?_ _) | (with_reducible refine Kd.C_drew ?_))); (case side2 => exact (Kd.N_reads' HO624.out).2.1); rintro e w82 ⟨v629, rfl, ho0, hb⟩; have n0_ := Aside0.mk (Kd.V_elder' (Kd.V_t HO_578003.out) (by first | exact Kd.N_base ho0 | exact Kd.R_base ho0 | exact Kd.S_base ho0 | exact Kd.Q_base ho0) hb); have n1_ := Aside0.mk (Kd.V_elder' (Kd.V_t HO_579003.out) (by first | exact Kd.N_base ho0 | exact Kd.R_base ho0 | exact Kd.S_base ho0 | exact Kd.Q_base ho0) hb); have n2_ := Aside0.mk (Kd.N_elder' (Kd.N_t HO586.out) (by first | exact Kd.N_base ho0 | exact Kd.R_base ho0 | exact Kd.S_base ho0 | exact Kd.Q_base ho0) hb); have n3_ := Aside0.mk (Kd.N_elder' (Kd.N_t HO592.out) (by first | exact Kd.N_base ho0 | exact Kd.R_base ho0 | exact Kd.S_base ho0 | exact Kd.Q_base ho0) hb); have n4_ := Aside0.mk (Kd.N_elder' (Kd.N_t HO610.out) (by first | exact Kd.N_base ho0 | exact Kd.R_base ho0 | exact Kd.S_base ho0 | exact Kd.Q_base ho0) hb); have n5_ := Aside0.mk (Kd.N_elder' (Kd.N_t HO616.out) (by first | exact Kd.N_base ho0 | exact Kd.R_base ho0 | exact Kd.S_base ho0 | exact Kd.Q_base ho0) hb); have n6_ := Aside0.mk (Kd.N_elder' (Kd.N_t HO624.out) (by first | exact Kd.N_base ho0 | exact Kd.R_base ho0 | exact Kd.S_base ho0 | exact Kd.Q_base ho0) hb); have n7_ := Aside0.mk (Kd.N_lower (Kd.N_mono (ok' := fun k_ => ((P0_3_ k_ ∨ P1_3_ k_) ∨ w.heap.size ≤ k_) ∧ some k_ ≠ (.slice Ao39 y584.length co39 : Value).ownBlock ∧ some k_ ≠ (.slice Ao45 t590.length co45 : Value).ownBlock ∧ some k_ ≠ (.slice Ao55 t608.length co55 : Value).ownBlock ∧ some k_ ≠ (.slice Ao57 t614.length co57 : Value).ownBlock ∧ some k_ ≠ (.slice Ao81 t622.length co81 : Value).ownBlock ∧ k_ ≠ gb577 ∧ k_ ≠ gb578 ∧ k_ ≠ gb593) ho0 (fun k_ hk_ => ⟨(.inr (Nat.le_trans (below_size (by repeat (with_reducible first | exact HB.out | apply below_alloc | apply pw_below_drewN | apply below_drew1 | refine below_set ?_ GE577.out | refine below_set ?_ GE578.out | refine below_set ?_ GE593.out))) hk_)), (Kd.fresh' (Kd.N_lt (Kd.N_t HO586.out)) k_ hk_), (Kd.fresh' (Kd.N_lt (Kd.N_t HO592.out)) k_ hk_), (Kd.fresh' (Kd.N_lt (Kd.N_t HO610.out)) k_ hk_), (Kd.fresh' (Kd.N_lt (Kd.N_t HO616.out)) k_ hk_), (Kd.fresh' (Kd.N_lt (Kd.N_t HO624.out)) k_ hk_), (Kd.freshB (bT BK577.out) k_ hk_), (Kd.freshB (bT BK578.out) k_ hk_), (Kd.freshB (bT BK593.out) k_ hk_)⟩)) (below_size (by repeat (with_reducible first | exact HB.out | apply below_alloc | apply pw_below_drewN | apply below_drew1 | refine below_set ?_ GE577.out | refine below_set ?_ GE578.out | refine below_set ?_ GE593.out)))); have n8_ := Aside0.mk (blk_below (bT BK577.out) hb); have n9_ := Aside0.mk (blk_below (bT BK578.out) hb); have n10_ := Aside0.mk (blk_below (bT BK593.out) hb); have n11_ := Aside0.mk (below_step (by repeat (with_reducible first | exact HB.out | apply below_alloc | apply pw_below_drewN | apply below_drew1 | refine below_set ?_ GE577.out | refine below_set ?_ GE578.out | refine below_set ?_ GE593.out)) hb); clear HO_578003; clear HO_579003; clear HO586; clear HO592; clear HO610; clear HO616; clear HO624; clear BK577; clear BK578; clear BK593; clear HB; have HO_578003 := n0_; have HO_579003 := n1_; have HO586 := n2_; have HO592 := n3_; have HO610 := n4_; have HO616 := n5_; have HO624 := n6_; have HO630 := n7_; have BK577 := n8_; have BK578 := n9_; have BK593 := n10_; have HB := n11_; clear n0_ n1_ n2_ n3_ n4_ n5_ n6_ n7_ n8_ n9_ n10_ n11_; (try clear hb); (try clear hb2); (try clear hk); (try clear hi); (try clear ho0); obtain ⟨Ao83, co83, eo83⟩ := Kd.N_slice HO630.out; subst eo83) | (go_at_call 11; (with_reducible refine (prettydoc_Right.calls kj3 t625 t626 t627 _ _ t628 t631 _ ?side1 ?side2 A66.out).mono ?_); (case side1 => repeat (first | exact (Kd.N_reads' HO630.out).2.2 | (with_reducible refine Kd.C_alloc ?_ _) | (with_reducible refine Kd.C_drewN ?_ _) | (with_reducible refine Kd.C_drew ?_))); (case side2 => exact (Kd.N_reads' HO630.out).2.1); rintro e w84 ⟨rfl, hb⟩; have n0_ := Aside0.mk (Kd.V_below (Kd.V_t HO_578003.out) hb); have n1_ := Aside0.mk (Kd.V_below (Kd.V_t HO_579003.out) hb); have n2_ := Aside0.mk (Kd.N_below (Kd.N_t HO586.out) hb); have n3_ := Aside0.mk (Kd.N_below (Kd.N_t HO592.out) hb); have n4_ := Aside0.mk (Kd.N_below (Kd.N_t HO610.out) hb); have n5_ := Aside0.mk (Kd.N_below (Kd.N_t HO616.out) hb); have n6_ := Aside0.mk (Kd.N_below (Kd.N_t HO624.out) hb); have n7_ := Aside0.mk (Kd.N_below (Kd.N_t HO630.out) hb); have n8_ := Aside0.mk (blk_below (bT BK577.out) hb); have n9_ := Aside0.mk (blk_below (bT BK578.out) hb); have n10_ := Aside0.mk (blk_below (bT BK593.out) hb); have n11_ := Aside0.mk (below_step (by repeat (with_reducible first | exact HB.out | apply below_alloc | apply pw_below_drewN | apply below_drew1 | refine below_set ?_ GE577.out | refine below_set ?_ GE578.out | refine below_set ?_ GE593.out)) hb); clear HO_578003; clear HO_579003; clear HO586; clear HO592; clear HO610; clear HO616; clear HO624; clear HO630; clear BK577; clear BK578; clear BK593; clear HB; have HO_578003 := n0_; have HO_579003 := n1_; have HO586 := n2_; have HO592 := n3_; have HO610 := n4_; have HO616 := n5_; have HO624 := n6_; have HO630 := n7_; have BK577 := n8_; have BK578 := n9_; have BK593 := n10_; have HB := n11_; clear n0_ n1_ n2_ n3_ n4_ n5_ n6_ n7_ n8_ n9_ n10_ n11_; (try clear hb); (try clear hb2); (try clear hk); (try clear hi)))
            go_meet
            case rel => exact ⟨_, (false), (by first | rfl | (simp; done) | (simp [*]; done)), H', ⟨by have := HJ3.out; first | omega | exact Nat.le_refl _⟩, ⟨Kd.V_t (Kd.V_mono HO_578003.out (fun _ hk => ⟨hk.1.1.1.1.1.1.1.1, ⟨hk.1.1.1.1.1.2, ⟨hk.1.1.1.1.1.1.1.2.1, ⟨hk.1.1.1.1.1.1.1.2.2, hk.1.1.1.1.2⟩⟩⟩⟩))⟩, ⟨Kd.V_t (Kd.V_mono HO_579003.out (fun _ hk => ⟨hk.1.1.1.1.1.1.1.1, ⟨hk.1.1.1.1.1.2, ⟨hk.1.1.1.1.1.1.1.2.1, ⟨hk.1.1.1.1.1.1.1.2.2, hk.1.1.1.1.2⟩⟩⟩⟩))⟩, ⟨Kd.N_t (Kd.N_mono HO592.out (fun _ hk => ⟨hk.1.1.1.1.1.1, ⟨hk.1.1.1.1.1.2.2.1, ⟨hk.1.1.1.1.1.2.2.2, hk.1.1.1.1.2⟩⟩⟩))⟩, ⟨bT BK577.out⟩, ⟨bT BK578.out⟩, ⟨bT BK593.out⟩, ⟨by repeat (with_reducible first | exact HB.out | apply below_alloc | apply pw_below_drewN | apply below_drew1 | refine below_set ?_ GE577.out | refine below_set ?_ GE578.out | refine below_set ?_ GE593.out)⟩⟩
          ·rw [if_neg c63] at H
           exact absurd H (by simp)
         ·rw [if_neg c62] at H
          exact absurd H (by simp)
        ·replace c61 := Bool.eq_false_iff.mpr c61
         subst c61
         have H1 : ((prettydoc_Nest.f kj3 1 a0_0 a0_1 a0_2 l0_3).bind fun bt632 => ((prettydoc_Group.f kj3 bt632.1 bt632.2.1 bt632.2.2.1 bt632.2.2.2).bind fun bt638 => ((prettydoc_Right.f kj3 bt638.1 bt638.2.1 bt638.2.2.1 bt638.2.2.2).bind fun t644 => (if t644 = 0 then (if (t618 != true) = true then (none) else (arboristlaw54_PrettydocJoins_v2.j1 kj3 (t617.toList != t599.toList) a0_0 a0_1 a0_2 l0_3 a1_0 a1_1 a1_2 l1_3 t587 t588 t589 t590)) else (arboristlaw54_PrettydocJoins_v2.j1 kj3 false a0_0 a0_1 a0_2 l0_3 a1_0 a1_1 a1_2 l1_3 t587 t588 t589 t590))))) = some r := by rw [if_neg (show ¬ (false = true) by decide)] at H; exact H
         clear H
         have H := H1
         clear H1
         replace H := Option.bind_eq_some_iff.mp H
         obtain ⟨⟨t632, t633, t634, t635⟩, A850, H⟩ := H
         replace H : ((prettydoc_Group.f kj3 t632 t633 t634 t635).bind fun bt638 => ((prettydoc_Right.f kj3 bt638.1 bt638.2.1 bt638.2.2.1 bt638.2.2.2).bind fun t644 => (if t644 = 0 then (if (t618 != true) = true then (none) else (arboristlaw54_PrettydocJoins_v2.j1 kj3 (t617.toList != t599.toList) a0_0 a0_1 a0_2 l0_3 a1_0 a1_1 a1_2 l1_3 t587 t588 t589 t590)) else (arboristlaw54_PrettydocJoins_v2.j1 kj3 false a0_0 a0_1 a0_2 l0_3 a1_0 a1_1 a1_2 l1_3 t587 t588 t589 t590)))) = some r := H
         have A85 := Aside0.mk A850
         clear A850
         replace H := Option.bind_eq_some_iff.mp H
         obtain ⟨⟨t638, t639, t640, t641⟩, A860, H⟩ := H
         replace H : ((prettydoc_Right.f kj3 t638 t639 t640 t641).bind fun t644 => (if t644 = 0 then (if (t618 != true) = true then (none) else (arboristlaw54_PrettydocJoins_v2.j1 kj3 (t617.toList != t599.toList) a0_0 a0_1 a0_2 l0_3 a1_0 a1_1 a1_2 l1_3 t587 t588 t589 t590)) else (arboristlaw54_PrettydocJoins_v2.j1 kj3 false a0_0 a0_1 a0_2 l0_3 a1_0 a1_1 a1_2 l1_3 t587 t588 t589 t590))) = some r := H
         have A86 := Aside0.mk A860
         clear A860
         replace H := Option.bind_eq_some_iff.mp H
         obtain ⟨t644, A870, H⟩ := H
         replace H : (if t644 = 0 then (if (t618 != true) = true then (none) else (arboristlaw54_PrettydocJoins_v2.j1 kj3 (t617.toList != t599.toList) a0_0 a0_1 a0_2 l0_3 a1_0 a1_1 a1_2 l1_3 t587 t588 t589 t590)) else (arboristlaw54_PrettydocJoins_v2.j1 kj3 false a0_0 a0_1 a0_2 l0_3 a1_0 a1_1 a1_2 l1_3 t587 t588 t589 t590)) = some r := H
         have A87 := Aside0.mk A870
         clear A870
         by_cases c88 : t644 = 0
         ·rw [if_pos c88] at H
          have c88b0 : (t644 == 0) = true := beq_iff_eq.mpr c88
          have c88b1 : (t644 != 0) = false := bne_eq_false_iff_eq.mpr c88
          clear c88
          by_cases c89 : (t618 != true) = true
          ·rw [if_pos c89] at H
           exact absurd H (by simp)
          ·rw [if_neg c89] at H
           have c89b0 : (t618 != true) = false := by simpa using c89
           (try (have c89b1 : decide (t618 = true) = true := by simpa using c89))
           (try (have c89b2 : (t618 == true) = true := by simpa using c89))
           clear c89
           have H' := Aside0.mk H
           clear H
           have hnb90 := NB577_578.out
           have hnc90 := NB578_577.out
           have hnb91 := NB577_593.out
           have hnc91 := NB593_577.out
           have hcz92_0 : w58.cell? ⟨gb577, 0, none⟩ = some (.int .i64 a0_0) := (blk_cell BK577.out 0).trans rfl
           have hcz92_1 : w58.cell? ⟨gb577, 1, none⟩ = some (.string a0_1) := (blk_cell BK577.out 1).trans rfl
           have hcz92_2 : w58.cell? ⟨gb577, 2, none⟩ = some (.int .i64 a0_2) := (blk_cell BK577.out 2).trans rfl
           have hcz92_3 : w58.cell? ⟨gb577, 3, none⟩ = some (.slice A0_3 l0_3.length c0_3) := (blk_cell BK577.out 3).trans rfl
           have hfz92_0 := blk_frozen BK577.out 0
           have hfz92_1 := blk_frozen BK577.out 1
           have hfz92_2 := blk_frozen BK577.out 2
           have hfz92_3 := blk_frozen BK577.out 3
           go_wp2_with (first | (go_at_call 21; (with_reducible refine (prettydoc_Nest.calls kj3 1 a0_0 a0_1 a0_2 _ _ l0_3 t632 t633 t634 t635 _ ?side1 ?side2 A85.out).mono ?_); (case side1 => repeat (first | exact (Kd.V_reads' HO_578003.out).2.2 | (with_reducible refine Kd.C_alloc ?_ _) | (with_reducible refine Kd.C_drewN ?_ _) | (with_reducible refine Kd.C_drew ?_))); (case side2 => exact (Kd.V_reads' HO_578003.out).2.1); rintro e w93 ⟨v636, rfl, ho0, hb⟩; have n0_ := Aside0.mk (Kd.V_elder' (Kd.V_t HO_578003.out) (by first | exact Kd.N_base ho0 | exact Kd.R_base ho0 | exact Kd.S_base ho0 | exact Kd.Q_base ho0) hb); have n1_ := Aside0.mk (Kd.V_elder' (Kd.V_t HO_579003.out) (by first | exact Kd.N_base ho0 | exact Kd.R_base ho0 | exact Kd.S_base ho0 | exact Kd.Q_base ho0) hb); have n2_ := Aside0.mk (Kd.N_elder' (Kd.N_t HO586.out) (by first | exact Kd.N_base ho0 | exact Kd.R_base ho0 | exact Kd.S_base ho0 | exact Kd.Q_base ho0) hb); have n3_ := Aside0.mk (Kd.N_elder' (Kd.N_t HO592.out) (by first | exact Kd.N_base ho0 | exact Kd.R_base ho0 | exact Kd.S_base ho0 | exact Kd.Q_base ho0) hb); have n4_ := Aside0.mk (Kd.N_elder' (Kd.N_t HO610.out) (by first | exact Kd.N_base ho0 | exact Kd.R_base ho0 | exact Kd.S_base ho0 | exact Kd.Q_base ho0) hb); have n5_ := Aside0.mk (Kd.N_elder' (Kd.N_t HO616.out) (by first | exact Kd.N_base ho0 | exact Kd.R_base ho0 | exact Kd.S_base ho0 | exact Kd.Q_base ho0) hb); have n6_ := Aside0.mk (Kd.N_lower (Kd.N_mono (ok' := fun k_ => ((P0_3_ k_ ∨ P1_3_ k_) ∨ w.heap.size ≤ k_) ∧ some k_ ≠ (.slice Ao39 y584.length co39 : Value).ownBlock ∧ some k_ ≠ (.slice Ao45 t590.length co45 : Value).ownBlock ∧ some k_ ≠ (.slice Ao55 t608.length co55 : Value).ownBlock ∧ some k_ ≠ (.slice Ao57 t614.length co57 : Value).ownBlock ∧ k_ ≠ gb577 ∧ k_ ≠ gb578 ∧ k_ ≠ gb593) ho0 (fun k_ hk_ => ⟨(.inr (Nat.le_trans (below_size (by repeat (with_reducible first | exact HB.out | apply below_alloc | apply pw_below_drewN | apply below_drew1 | refine below_set ?_ GE577.out | refine below_set ?_ GE578.out | refine below_set ?_ GE593.out))) hk_)), (Kd.fresh' (Kd.N_lt (Kd.N_t HO586.out)) k_ hk_), (Kd.fresh' (Kd.N_lt (Kd.N_t HO592.out)) k_ hk_), (Kd.fresh' (Kd.N_lt (Kd.N_t HO610.out)) k_ hk_), (Kd.fresh' (Kd.N_lt (Kd.N_t HO616.out)) k_ hk_), (Kd.freshB (bT BK577.out) k_ hk_), (Kd.freshB (bT BK578.out) k_ hk_), (Kd.freshB (bT BK593.out) k_ hk_)⟩)) (below_size (by repeat (with_reducible first | exact HB.out | apply below_alloc | apply pw_below_drewN | apply below_drew1 | refine below_set ?_ GE577.out | refine below_set ?_ GE578.out | refine below_set ?_ GE593.out)))); have n7_ := Aside0.mk (blk_below (bT BK577.out) hb); have n8_ := Aside0.mk (blk_below (bT BK578.out) hb); have n9_ := Aside0.mk (blk_below (bT BK593.out) hb); have n10_ := Aside0.mk (below_step (by repeat (with_reducible first | exact HB.out | apply below_alloc | apply pw_below_drewN | apply below_drew1 | refine below_set ?_ GE577.out | refine below_set ?_ GE578.out | refine below_set ?_ GE593.out)) hb); clear HO_578003; clear HO_579003; clear HO586; clear HO592; clear HO610; clear HO616; clear BK577; clear BK578; clear BK593; clear HB; have HO_578003 := n0_; have HO_579003 := n1_; have HO586 := n2_; have HO592 := n3_; have HO610 := n4_; have HO616 := n5_; have HO637 := n6_; have BK577 := n7_; have BK578 := n8_; have BK593 := n9_; have HB := n10_; clear n0_ n1_ n2_ n3_ n4_ n5_ n6_ n7_ n8_ n9_ n10_; (try clear hb); (try clear hb2); (try clear hk); (try clear hi); (try clear ho0); obtain ⟨Ao94, co94, eo94⟩ := Kd.N_slice HO637.out; subst eo94) | (go_at_call 23; (with_reducible refine (prettydoc_Group.calls kj3 t632 t633 t634 _ _ t635 t638 t639 t640 t641 _ ?side1 ?side2 A86.out).mono ?_); (case side1 => repeat (first | exact (Kd.N_reads' HO637.out).2.2 | (with_reducible refine Kd.C_alloc ?_ _) | (with_reducible refine Kd.C_drewN ?_ _) | (with_reducible refine Kd.C_drew ?_))); (case side2 => exact (Kd.N_reads' HO637.out).2.1); rintro e w95 ⟨v642, rfl, ho0, hb⟩; have n0_ := Aside0.mk (Kd.V_elder' (Kd.V_t HO_578003.out) (by first | exact Kd.N_base ho0 | exact Kd.R_base ho0 | exact Kd.S_base ho0 | exact Kd.Q_base ho0) hb); have n1_ := Aside0.mk (Kd.V_elder' (Kd.V_t HO_579003.out) (by first | exact Kd.N_base ho0 | exact Kd.R_base ho0 | exact Kd.S_base ho0 | exact Kd.Q_base ho0) hb); have n2_ := Aside0.mk (Kd.N_elder' (Kd.N_t HO586.out) (by first | exact Kd.N_base ho0 | exact Kd.R_base ho0 | exact Kd.S_base ho0 | exact Kd.Q_base ho0) hb); have n3_ := Aside0.mk (Kd.N_elder' (Kd.N_t HO592.out) (by first | exact Kd.N_base ho0 | exact Kd.R_base ho0 | exact Kd.S_base ho0 | exact Kd.Q_base ho0) hb); have n4_ := Aside0.mk (Kd.N_elder' (Kd.N_t HO610.out) (by first | exact Kd.N_base ho0 | exact Kd.R_base ho0 | exact Kd.S_base ho0 | exact Kd.Q_base ho0) hb); have n5_ := Aside0.mk (Kd.N_elder' (Kd.N_t HO616.out) (by first | exact Kd.N_base ho0 | exact Kd.R_base ho0 | exact Kd.S_base ho0 | exact Kd.Q_base ho0) hb); have n6_ := Aside0.mk (Kd.N_elder' (Kd.N_t HO637.out) (by first | exact Kd.N_base ho0 | exact Kd.R_base ho0 | exact Kd.S_base ho0 | exact Kd.Q_base ho0) hb); have n7_ := Aside0.mk (Kd.N_lower (Kd.N_mono (ok' := fun k_ => ((P0_3_ k_ ∨ P1_3_ k_) ∨ w.heap.size ≤ k_) ∧ some k_ ≠ (.slice Ao39 y584.length co39 : Value).ownBlock ∧ some k_ ≠ (.slice Ao45 t590.length co45 : Value).ownBlock ∧ some k_ ≠ (.slice Ao55 t608.length co55 : Value).ownBlock ∧ some k_ ≠ (.slice Ao57 t614.length co57 : Value).ownBlock ∧ some k_ ≠ (.slice Ao94 t635.length co94 : Value).ownBlock ∧ k_ ≠ gb577 ∧ k_ ≠ gb578 ∧ k_ ≠ gb593) ho0 (fun k_ hk_ => ⟨(.inr (Nat.le_trans (below_size (by repeat (with_reducible first | exact HB.out | apply below_alloc | apply pw_below_drewN | apply below_drew1 | refine below_set ?_ GE577.out | refine below_set ?_ GE578.out | refine below_set ?_ GE593.out))) hk_)), (Kd.fresh' (Kd.N_lt (Kd.N_t HO586.out)) k_ hk_), (Kd.fresh' (Kd.N_lt (Kd.N_t HO592.out)) k_ hk_), (Kd.fresh' (Kd.N_lt (Kd.N_t HO610.out)) k_ hk_), (Kd.fresh' (Kd.N_lt (Kd.N_t HO616.out)) k_ hk_), (Kd.fresh' (Kd.N_lt (Kd.N_t HO637.out)) k_ hk_), (Kd.freshB (bT BK577.out) k_ hk_), (Kd.freshB (bT BK578.out) k_ hk_), (Kd.freshB (bT BK593.out) k_ hk_)⟩)) (below_size (by repeat (with_reducible first | exact HB.out | apply below_alloc | apply pw_below_drewN | apply below_drew1 | refine below_set ?_ GE577.out | refine below_set ?_ GE578.out | refine below_set ?_ GE593.out)))); have n8_ := Aside0.mk (blk_below (bT BK577.out) hb); have n9_ := Aside0.mk (blk_below (bT BK578.out) hb); have n10_ := Aside0.mk (blk_below (bT BK593.out) hb); have n11_ := Aside0.mk (below_step (by repeat (with_reducible first | exact HB.out | apply below_alloc | apply pw_below_drewN | apply below_drew1 | refine below_set ?_ GE577.out | refine below_set ?_ GE578.out | refine below_set ?_ GE593.out)) hb); clear HO_578003; clear HO_579003; clear HO586; clear HO592; clear HO610; clear HO616; clear HO637; clear BK577; clear BK578; clear BK593; clear HB; have HO_578003 := n0_; have HO_579003 := n1_; have HO586 := n2_; have HO592 := n3_; have HO610 := n4_; have HO616 := n5_; have HO637 := n6_; have HO643 := n7_; have BK577 := n8_; have BK578 := n9_; have BK593 := n10_; have HB := n11_; clear n0_ n1_ n2_ n3_ n4_ n5_ n6_ n7_ n8_ n9_ n10_ n11_; (try clear hb); (try clear hb2); (try clear hk); (try clear hi); (try clear ho0); obtain ⟨Ao96, co96, eo96⟩ := Kd.N_slice HO643.out; subst eo96) | (go_at_call 11; (with_reducible refine (prettydoc_Right.calls kj3 t638 t639 t640 _ _ t641 t644 _ ?side1 ?side2 A87.out).mono ?_); (case side1 => repeat (first | exact (Kd.N_reads' HO643.out).2.2 | (with_reducible refine Kd.C_alloc ?_ _) | (with_reducible refine Kd.C_drewN ?_ _) | (with_reducible refine Kd.C_drew ?_))); (case side2 => exact (Kd.N_reads' HO643.out).2.1); rintro e w97 ⟨rfl, hb⟩; have n0_ := Aside0.mk (Kd.V_below (Kd.V_t HO_578003.out) hb); have n1_ := Aside0.mk (Kd.V_below (Kd.V_t HO_579003.out) hb); have n2_ := Aside0.mk (Kd.N_below (Kd.N_t HO586.out) hb); have n3_ := Aside0.mk (Kd.N_below (Kd.N_t HO592.out) hb); have n4_ := Aside0.mk (Kd.N_below (Kd.N_t HO610.out) hb); have n5_ := Aside0.mk (Kd.N_below (Kd.N_t HO616.out) hb); have n6_ := Aside0.mk (Kd.N_below (Kd.N_t HO637.out) hb); have n7_ := Aside0.mk (Kd.N_below (Kd.N_t HO643.out) hb); have n8_ := Aside0.mk (blk_below (bT BK577.out) hb); have n9_ := Aside0.mk (blk_below (bT BK578.out) hb); have n10_ := Aside0.mk (blk_below (bT BK593.out) hb); have n11_ := Aside0.mk (below_step (by repeat (with_reducible first | exact HB.out | apply below_alloc | apply pw_below_drewN | apply below_drew1 | refine below_set ?_ GE577.out | refine below_set ?_ GE578.out | refine below_set ?_ GE593.out)) hb); clear HO_578003; clear HO_579003; clear HO586; clear HO592; clear HO610; clear HO616; clear HO637; clear HO643; clear BK577; clear BK578; clear BK593; clear HB; have HO_578003 := n0_; have HO_579003 := n1_; have HO586 := n2_; have HO592 := n3_; have HO610 := n4_; have HO616 := n5_; have HO637 := n6_; have HO643 := n7_; have BK577 := n8_; have BK578 := n9_; have BK593 := n10_; have HB := n11_; clear n0_ n1_ n2_ n3_ n4_ n5_ n6_ n7_ n8_ n9_ n10_ n11_; (try clear hb); (try clear hb2); (try clear hk); (try clear hi)))
           go_meet
           case rel => exact ⟨_, ((t617.toList != t599.toList)), (by first | rfl | (simp; done) | (simp [*]; done)), H', ⟨by have := HJ3.out; first | omega | exact Nat.le_refl _⟩, ⟨Kd.V_t (Kd.V_mono HO_578003.out (fun _ hk => ⟨hk.1.1.1.1.1.1.1.1, ⟨hk.1.1.1.1.1.2, ⟨hk.1.1.1.1.1.1.1.2.1, ⟨hk.1.1.1.1.1.1.1.2.2, hk.1.1.1.1.2⟩⟩⟩⟩))⟩, ⟨Kd.V_t (Kd.V_mono HO_579003.out (fun _ hk => ⟨hk.1.1.1.1.1.1.1.1, ⟨hk.1.1.1.1.1.2, ⟨hk.1.1.1.1.1.1.1.2.1, ⟨hk.1.1.1.1.1.1.1.2.2, hk.1.1.1.1.2⟩⟩⟩⟩))⟩, ⟨Kd.N_t (Kd.N_mono HO592.out (fun _ hk => ⟨hk.1.1.1.1.1.1, ⟨hk.1.1.1.1.1.2.2.1, ⟨hk.1.1.1.1.1.2.2.2, hk.1.1.1.1.2⟩⟩⟩))⟩, ⟨bT BK577.out⟩, ⟨bT BK578.out⟩, ⟨bT BK593.out⟩, ⟨by repeat (with_reducible first | exact HB.out | apply below_alloc | apply pw_below_drewN | apply below_drew1 | refine below_set ?_ GE577.out | refine below_set ?_ GE578.out | refine below_set ?_ GE593.out)⟩⟩
         ·rw [if_neg c88] at H
          have c88b0 : (t644 == 0) = false := beq_eq_false_iff_ne.mpr c88
          have c88b1 : (t644 != 0) = true := bne_iff_ne.mpr c88
          have H' := Aside0.mk H
          clear H
          have hnb98 := NB577_578.out
          have hnc98 := NB578_577.out
          have hnb99 := NB577_593.out
          have hnc99 := NB593_577.out
          have hcz100_0 : w58.cell? ⟨gb577, 0, none⟩ = some (.int .i64 a0_0) := (blk_cell BK577.out 0).trans rfl
          have hcz100_1 : w58.cell? ⟨gb577, 1, none⟩ = some (.string a0_1) := (blk_cell BK577.out 1).trans rfl
          have hcz100_2 : w58.cell? ⟨gb577, 2, none⟩ = some (.int .i64 a0_2) := (blk_cell BK577.out 2).trans rfl
          have hcz100_3 : w58.cell? ⟨gb577, 3, none⟩ = some (.slice A0_3 l0_3.length c0_3) := (blk_cell BK577.out 3).trans rfl
          have hfz100_0 := blk_frozen BK577.out 0
          have hfz100_1 := blk_frozen BK577.out 1
          have hfz100_2 := blk_frozen BK577.out 2
          have hfz100_3 := blk_frozen BK577.out 3
          go_wp2_with (first | (go_at_call 21; (with_reducible refine (prettydoc_Nest.calls kj3 1 a0_0 a0_1 a0_2 _ _ l0_3 t632 t633 t634 t635 _ ?side1 ?side2 A85.out).mono ?_); (case side1 => repeat (first | exact (Kd.V_reads' HO_578003.out).2.2 | (with_reducible refine Kd.C_alloc ?_ _) | (with_reducible refine Kd.C_drewN ?_ _) | (with_reducible refine Kd.C_drew ?_))); (case side2 => exact (Kd.V_reads' HO_578003.out).2.1); rintro e w101 ⟨v636, rfl, ho0, hb⟩; have n0_ := Aside0.mk (Kd.V_elder' (Kd.V_t HO_578003.out) (by first | exact Kd.N_base ho0 | exact Kd.R_base ho0 | exact Kd.S_base ho0 | exact Kd.Q_base ho0) hb); have n1_ := Aside0.mk (Kd.V_elder' (Kd.V_t HO_579003.out) (by first | exact Kd.N_base ho0 | exact Kd.R_base ho0 | exact Kd.S_base ho0 | exact Kd.Q_base ho0) hb); have n2_ := Aside0.mk (Kd.N_elder' (Kd.N_t HO586.out) (by first | exact Kd.N_base ho0 | exact Kd.R_base ho0 | exact Kd.S_base ho0 | exact Kd.Q_base ho0) hb); have n3_ := Aside0.mk (Kd.N_elder' (Kd.N_t HO592.out) (by first | exact Kd.N_base ho0 | exact Kd.R_base ho0 | exact Kd.S_base ho0 | exact Kd.Q_base ho0) hb); have n4_ := Aside0.mk (Kd.N_elder' (Kd.N_t HO610.out) (by first | exact Kd.N_base ho0 | exact Kd.R_base ho0 | exact Kd.S_base ho0 | exact Kd.Q_base ho0) hb); have n5_ := Aside0.mk (Kd.N_elder' (Kd.N_t HO616.out) (by first | exact Kd.N_base ho0 | exact Kd.R_base ho0 | exact Kd.S_base ho0 | exact Kd.Q_base ho0) hb); have n6_ := Aside0.mk (Kd.N_lower (Kd.N_mono (ok' := fun k_ => ((P0_3_ k_ ∨ P1_3_ k_) ∨ w.heap.size ≤ k_) ∧ some k_ ≠ (.slice Ao39 y584.length co39 : Value).ownBlock ∧ some k_ ≠ (.slice Ao45 t590.length co45 : Value).ownBlock ∧ some k_ ≠ (.slice Ao55 t608.length co55 : Value).ownBlock ∧ some k_ ≠ (.slice Ao57 t614.length co57 : Value).ownBlock ∧ k_ ≠ gb577 ∧ k_ ≠ gb578 ∧ k_ ≠ gb593) ho0 (fun k_ hk_ => ⟨(.inr (Nat.le_trans (below_size (by repeat (with_reducible first | exact HB.out | apply below_alloc | apply pw_below_drewN | apply below_drew1 | refine below_set ?_ GE577.out | refine below_set ?_ GE578.out | refine below_set ?_ GE593.out))) hk_)), (Kd.fresh' (Kd.N_lt (Kd.N_t HO586.out)) k_ hk_), (Kd.fresh' (Kd.N_lt (Kd.N_t HO592.out)) k_ hk_), (Kd.fresh' (Kd.N_lt (Kd.N_t HO610.out)) k_ hk_), (Kd.fresh' (Kd.N_lt (Kd.N_t HO616.out)) k_ hk_), (Kd.freshB (bT BK577.out) k_ hk_), (Kd.freshB (bT BK578.out) k_ hk_), (Kd.freshB (bT BK593.out) k_ hk_)⟩)) (below_size (by repeat (with_reducible first | exact HB.out | apply below_alloc | apply pw_below_drewN | apply below_drew1 | refine below_set ?_ GE577.out | refine below_set ?_ GE578.out | refine below_set ?_ GE593.out)))); have n7_ := Aside0.mk (blk_below (bT BK577.out) hb); have n8_ := Aside0.mk (blk_below (bT BK578.out) hb); have n9_ := Aside0.mk (blk_below (bT BK593.out) hb); have n10_ := Aside0.mk (below_step (by repeat (with_reducible first | exact HB.out | apply below_alloc | apply pw_below_drewN | apply below_drew1 | refine below_set ?_ GE577.out | refine below_set ?_ GE578.out | refine below_set ?_ GE593.out)) hb); clear HO_578003; clear HO_579003; clear HO586; clear HO592; clear HO610; clear HO616; clear BK577; clear BK578; clear BK593; clear HB; have HO_578003 := n0_; have HO_579003 := n1_; have HO586 := n2_; have HO592 := n3_; have HO610 := n4_; have HO616 := n5_; have HO637 := n6_; have BK577 := n7_; have BK578 := n8_; have BK593 := n9_; have HB := n10_; clear n0_ n1_ n2_ n3_ n4_ n5_ n6_ n7_ n8_ n9_ n10_; (try clear hb); (try clear hb2); (try clear hk); (try clear hi); (try clear ho0); obtain ⟨Ao102, co102, eo102⟩ := Kd.N_slice HO637.out; subst eo102) | (go_at_call 23; (with_reducible refine (prettydoc_Group.calls kj3 t632 t633 t634 _ _ t635 t638 t639 t640 t641 _ ?side1 ?side2 A86.out).mono ?_); (case side1 => repeat (first | exact (Kd.N_reads' HO637.out).2.2 | (with_reducible refine Kd.C_alloc ?_ _) | (with_reducible refine Kd.C_drewN ?_ _) | (with_reducible refine Kd.C_drew ?_))); (case side2 => exact (Kd.N_reads' HO637.out).2.1); rintro e w103 ⟨v642, rfl, ho0, hb⟩; have n0_ := Aside0.mk (Kd.V_elder' (Kd.V_t HO_578003.out) (by first | exact Kd.N_base ho0 | exact Kd.R_base ho0 | exact Kd.S_base ho0 | exact Kd.Q_base ho0) hb); have n1_ := Aside0.mk (Kd.V_elder' (Kd.V_t HO_579003.out) (by first | exact Kd.N_base ho0 | exact Kd.R_base ho0 | exact Kd.S_base ho0 | exact Kd.Q_base ho0) hb); have n2_ := Aside0.mk (Kd.N_elder' (Kd.N_t HO586.out) (by first | exact Kd.N_base ho0 | exact Kd.R_base ho0 | exact Kd.S_base ho0 | exact Kd.Q_base ho0) hb); have n3_ := Aside0.mk (Kd.N_elder' (Kd.N_t HO592.out) (by first | exact Kd.N_base ho0 | exact Kd.R_base ho0 | exact Kd.S_base ho0 | exact Kd.Q_base ho0) hb); have n4_ := Aside0.mk (Kd.N_elder' (Kd.N_t HO610.out) (by first | exact Kd.N_base ho0 | exact Kd.R_base ho0 | exact Kd.S_base ho0 | exact Kd.Q_base ho0) hb); have n5_ := Aside0.mk (Kd.N_elder' (Kd.N_t HO616.out) (by first | exact Kd.N_base ho0 | exact Kd.R_base ho0 | exact Kd.S_base ho0 | exact Kd.Q_base ho0) hb); have n6_ := Aside0.mk (Kd.N_elder' (Kd.N_t HO637.out) (by first | exact Kd.N_base ho0 | exact Kd.R_base ho0 | exact Kd.S_base ho0 | exact Kd.Q_base ho0) hb); have n7_ := Aside0.mk (Kd.N_lower (Kd.N_mono (ok' := fun k_ => ((P0_3_ k_ ∨ P1_3_ k_) ∨ w.heap.size ≤ k_) ∧ some k_ ≠ (.slice Ao39 y584.length co39 : Value).ownBlock ∧ some k_ ≠ (.slice Ao45 t590.length co45 : Value).ownBlock ∧ some k_ ≠ (.slice Ao55 t608.length co55 : Value).ownBlock ∧ some k_ ≠ (.slice Ao57 t614.length co57 : Value).ownBlock ∧ some k_ ≠ (.slice Ao102 t635.length co102 : Value).ownBlock ∧ k_ ≠ gb577 ∧ k_ ≠ gb578 ∧ k_ ≠ gb593) ho0 (fun k_ hk_ => ⟨(.inr (Nat.le_trans (below_size (by repeat (with_reducible first | exact HB.out | apply below_alloc | apply pw_below_drewN | apply below_drew1 | refine below_set ?_ GE577.out | refine below_set ?_ GE578.out | refine below_set ?_ GE593.out))) hk_)), (Kd.fresh' (Kd.N_lt (Kd.N_t HO586.out)) k_ hk_), (Kd.fresh' (Kd.N_lt (Kd.N_t HO592.out)) k_ hk_), (Kd.fresh' (Kd.N_lt (Kd.N_t HO610.out)) k_ hk_), (Kd.fresh' (Kd.N_lt (Kd.N_t HO616.out)) k_ hk_), (Kd.fresh' (Kd.N_lt (Kd.N_t HO637.out)) k_ hk_), (Kd.freshB (bT BK577.out) k_ hk_), (Kd.freshB (bT BK578.out) k_ hk_), (Kd.freshB (bT BK593.out) k_ hk_)⟩)) (below_size (by repeat (with_reducible first | exact HB.out | apply below_alloc | apply pw_below_drewN | apply below_drew1 | refine below_set ?_ GE577.out | refine below_set ?_ GE578.out | refine below_set ?_ GE593.out)))); have n8_ := Aside0.mk (blk_below (bT BK577.out) hb); have n9_ := Aside0.mk (blk_below (bT BK578.out) hb); have n10_ := Aside0.mk (blk_below (bT BK593.out) hb); have n11_ := Aside0.mk (below_step (by repeat (with_reducible first | exact HB.out | apply below_alloc | apply pw_below_drewN | apply below_drew1 | refine below_set ?_ GE577.out | refine below_set ?_ GE578.out | refine below_set ?_ GE593.out)) hb); clear HO_578003; clear HO_579003; clear HO586; clear HO592; clear HO610; clear HO616; clear HO637; clear BK577; clear BK578; clear BK593; clear HB; have HO_578003 := n0_; have HO_579003 := n1_; have HO586 := n2_; have HO592 := n3_; have HO610 := n4_; have HO616 := n5_; have HO637 := n6_; have HO643 := n7_; have BK577 := n8_; have BK578 := n9_; have BK593 := n10_; have HB := n11_; clear n0_ n1_ n2_ n3_ n4_ n5_ n6_ n7_ n8_ n9_ n10_ n11_; (try clear hb); (try clear hb2); (try clear hk); (try clear hi); (try clear ho0); obtain ⟨Ao104, co104, eo104⟩ := Kd.N_slice HO643.out; subst eo104) | (go_at_call 11; (with_reducible refine (prettydoc_Right.calls kj3 t638 t639 t640 _ _ t641 t644 _ ?side1 ?side2 A87.out).mono ?_); (case side1 => repeat (first | exact (Kd.N_reads' HO643.out).2.2 | (with_reducible refine Kd.C_alloc ?_ _) | (with_reducible refine Kd.C_drewN ?_ _) | (with_reducible refine Kd.C_drew ?_))); (case side2 => exact (Kd.N_reads' HO643.out).2.1); rintro e w105 ⟨rfl, hb⟩; have n0_ := Aside0.mk (Kd.V_below (Kd.V_t HO_578003.out) hb); have n1_ := Aside0.mk (Kd.V_below (Kd.V_t HO_579003.out) hb); have n2_ := Aside0.mk (Kd.N_below (Kd.N_t HO586.out) hb); have n3_ := Aside0.mk (Kd.N_below (Kd.N_t HO592.out) hb); have n4_ := Aside0.mk (Kd.N_below (Kd.N_t HO610.out) hb); have n5_ := Aside0.mk (Kd.N_below (Kd.N_t HO616.out) hb); have n6_ := Aside0.mk (Kd.N_below (Kd.N_t HO637.out) hb); have n7_ := Aside0.mk (Kd.N_below (Kd.N_t HO643.out) hb); have n8_ := Aside0.mk (blk_below (bT BK577.out) hb); have n9_ := Aside0.mk (blk_below (bT BK578.out) hb); have n10_ := Aside0.mk (blk_below (bT BK593.out) hb); have n11_ := Aside0.mk (below_step (by repeat (with_reducible first | exact HB.out | apply below_alloc | apply pw_below_drewN | apply below_drew1 | refine below_set ?_ GE577.out | refine below_set ?_ GE578.out | refine below_set ?_ GE593.out)) hb); clear HO_578003; clear HO_579003; clear HO586; clear HO592; clear HO610; clear HO616; clear HO637; clear HO643; clear BK577; clear BK578; clear BK593; clear HB; have HO_578003 := n0_; have HO_579003 := n1_; have HO586 := n2_; have HO592 := n3_; have HO610 := n4_; have HO616 := n5_; have HO637 := n6_; have HO643 := n7_; have BK577 := n8_; have BK578 := n9_; have BK593 := n10_; have HB := n11_; clear n0_ n1_ n2_ n3_ n4_ n5_ n6_ n7_ n8_ n9_ n10_ n11_; (try clear hb); (try clear hb2); (try clear hk); (try clear hi)))
          go_meet
          case rel => exact ⟨_, (false), (by first | rfl | (simp; done) | (simp [*]; done)), H', ⟨by have := HJ3.out; first | omega | exact Nat.le_refl _⟩, ⟨Kd.V_t (Kd.V_mono HO_578003.out (fun _ hk => ⟨hk.1.1.1.1.1.1.1.1, ⟨hk.1.1.1.1.1.2, ⟨hk.1.1.1.1.1.1.1.2.1, ⟨hk.1.1.1.1.1.1.1.2.2, hk.1.1.1.1.2⟩⟩⟩⟩))⟩, ⟨Kd.V_t (Kd.V_mono HO_579003.out (fun _ hk => ⟨hk.1.1.1.1.1.1.1.1, ⟨hk.1.1.1.1.1.2, ⟨hk.1.1.1.1.1.1.1.2.1, ⟨hk.1.1.1.1.1.1.1.2.2, hk.1.1.1.1.2⟩⟩⟩⟩))⟩, ⟨Kd.N_t (Kd.N_mono HO592.out (fun _ hk => ⟨hk.1.1.1.1.1.1, ⟨hk.1.1.1.1.1.2.2.1, ⟨hk.1.1.1.1.1.2.2.2, hk.1.1.1.1.2⟩⟩⟩))⟩, ⟨bT BK577.out⟩, ⟨bT BK578.out⟩, ⟨bT BK593.out⟩, ⟨by repeat (with_reducible first | exact HB.out | apply below_alloc | apply pw_below_drewN | apply below_drew1 | refine below_set ?_ GE577.out | refine below_set ?_ GE578.out | refine below_set ?_ GE593.out)⟩⟩
      ·replace c59 := Bool.eq_false_iff.mpr c59
       subst c59
       have H1 : (if (t604 != false) = true then (none) else (if t604 = true then (none) else ((prettydoc_Nest.f kj3 1 a0_0 a0_1 a0_2 l0_3).bind fun bt658 => ((prettydoc_Group.f kj3 bt658.1 bt658.2.1 bt658.2.2.1 bt658.2.2.2).bind fun bt664 => ((prettydoc_Right.f kj3 bt664.1 bt664.2.1 bt664.2.2.1 bt664.2.2.2).bind fun t670 => (if t670 = 0 then (if (t618 != false) = true then (none) else (arboristlaw54_PrettydocJoins_v2.j1 kj3 (t617.toList != t599.toList) a0_0 a0_1 a0_2 l0_3 a1_0 a1_1 a1_2 l1_3 t587 t588 t589 t590)) else (arboristlaw54_PrettydocJoins_v2.j1 kj3 false a0_0 a0_1 a0_2 l0_3 a1_0 a1_1 a1_2 l1_3 t587 t588 t589 t590))))))) = some r := by rw [if_neg (show ¬ (false = true) by decide)] at H; exact H
       clear H
       have H := H1
       clear H1
       by_cases c106 : (t604 != false) = true
       ·rw [if_pos c106] at H
        exact absurd H (by simp)
       ·rw [if_neg c106] at H
        have c106b0 : (t604 != false) = false := by simpa using c106
        (try (have c106b1 : decide (t604 = false) = true := by simpa using c106))
        (try (have c106b2 : (t604 == false) = true := by simpa using c106))
        clear c106
        by_cases c107 : t604 = true
        ·subst c107
         have H1 : (none) = some r := by rw [if_pos rfl] at H; exact H
         clear H
         have H := H1
         clear H1
         exact absurd H (by simp)
        ·replace c107 := Bool.eq_false_iff.mpr c107
         subst c107
         have H1 : ((prettydoc_Nest.f kj3 1 a0_0 a0_1 a0_2 l0_3).bind fun bt658 => ((prettydoc_Group.f kj3 bt658.1 bt658.2.1 bt658.2.2.1 bt658.2.2.2).bind fun bt664 => ((prettydoc_Right.f kj3 bt664.1 bt664.2.1 bt664.2.2.1 bt664.2.2.2).bind fun t670 => (if t670 = 0 then (if (t618 != false) = true then (none) else (arboristlaw54_PrettydocJoins_v2.j1 kj3 (t617.toList != t599.toList) a0_0 a0_1 a0_2 l0_3 a1_0 a1_1 a1_2 l1_3 t587 t588 t589 t590)) else (arboristlaw54_PrettydocJoins_v2.j1 kj3 false a0_0 a0_1 a0_2 l0_3 a1_0 a1_1 a1_2 l1_3 t587 t588 t589 t590))))) = some r := by rw [if_neg (show ¬ (false = true) by decide)] at H; exact H
         clear H
         have H := H1
         clear H1
         replace H := Option.bind_eq_some_iff.mp H
         obtain ⟨⟨t658, t659, t660, t661⟩, A1080, H⟩ := H
         replace H : ((prettydoc_Group.f kj3 t658 t659 t660 t661).bind fun bt664 => ((prettydoc_Right.f kj3 bt664.1 bt664.2.1 bt664.2.2.1 bt664.2.2.2).bind fun t670 => (if t670 = 0 then (if (t618 != false) = true then (none) else (arboristlaw54_PrettydocJoins_v2.j1 kj3 (t617.toList != t599.toList) a0_0 a0_1 a0_2 l0_3 a1_0 a1_1 a1_2 l1_3 t587 t588 t589 t590)) else (arboristlaw54_PrettydocJoins_v2.j1 kj3 false a0_0 a0_1 a0_2 l0_3 a1_0 a1_1 a1_2 l1_3 t587 t588 t589 t590)))) = some r := H
         have A108 := Aside0.mk A1080
         clear A1080
         replace H := Option.bind_eq_some_iff.mp H
         obtain ⟨⟨t664, t665, t666, t667⟩, A1090, H⟩ := H
         replace H : ((prettydoc_Right.f kj3 t664 t665 t666 t667).bind fun t670 => (if t670 = 0 then (if (t618 != false) = true then (none) else (arboristlaw54_PrettydocJoins_v2.j1 kj3 (t617.toList != t599.toList) a0_0 a0_1 a0_2 l0_3 a1_0 a1_1 a1_2 l1_3 t587 t588 t589 t590)) else (arboristlaw54_PrettydocJoins_v2.j1 kj3 false a0_0 a0_1 a0_2 l0_3 a1_0 a1_1 a1_2 l1_3 t587 t588 t589 t590))) = some r := H
         have A109 := Aside0.mk A1090
         clear A1090
         replace H := Option.bind_eq_some_iff.mp H
         obtain ⟨t670, A1100, H⟩ := H
         replace H : (if t670 = 0 then (if (t618 != false) = true then (none) else (arboristlaw54_PrettydocJoins_v2.j1 kj3 (t617.toList != t599.toList) a0_0 a0_1 a0_2 l0_3 a1_0 a1_1 a1_2 l1_3 t587 t588 t589 t590)) else (arboristlaw54_PrettydocJoins_v2.j1 kj3 false a0_0 a0_1 a0_2 l0_3 a1_0 a1_1 a1_2 l1_3 t587 t588 t589 t590)) = some r := H
         have A110 := Aside0.mk A1100
         clear A1100
         by_cases c111 : t670 = 0
         ·rw [if_pos c111] at H
          have c111b0 : (t670 == 0) = true := beq_iff_eq.mpr c111
          have c111b1 : (t670 != 0) = false := bne_eq_false_iff_eq.mpr c111
          clear c111
          by_cases c112 : (t618 != false) = true
          ·rw [if_pos c112] at H
           exact absurd H (by simp)
          ·rw [if_neg c112] at H
           have c112b0 : (t618 != false) = false := by simpa using c112
           (try (have c112b1 : decide (t618 = false) = true := by simpa using c112))
           (try (have c112b2 : (t618 == false) = true := by simpa using c112))
           clear c112
           have H' := Aside0.mk H
           clear H
           have hnb113 := NB577_578.out
           have hnc113 := NB578_577.out
           have hnb114 := NB577_593.out
           have hnc114 := NB593_577.out
           have hcz115_0 : w58.cell? ⟨gb577, 0, none⟩ = some (.int .i64 a0_0) := (blk_cell BK577.out 0).trans rfl
           have hcz115_1 : w58.cell? ⟨gb577, 1, none⟩ = some (.string a0_1) := (blk_cell BK577.out 1).trans rfl
           have hcz115_2 : w58.cell? ⟨gb577, 2, none⟩ = some (.int .i64 a0_2) := (blk_cell BK577.out 2).trans rfl
           have hcz115_3 : w58.cell? ⟨gb577, 3, none⟩ = some (.slice A0_3 l0_3.length c0_3) := (blk_cell BK577.out 3).trans rfl
           have hfz115_0 := blk_frozen BK577.out 0
           have hfz115_1 := blk_frozen BK577.out 1
           have hfz115_2 := blk_frozen BK577.out 2
           have hfz115_3 := blk_frozen BK577.out 3
           go_wp2_with (first | (go_at_call 21; (with_reducible refine (prettydoc_Nest.calls kj3 1 a0_0 a0_1 a0_2 _ _ l0_3 t658 t659 t660 t661 _ ?side1 ?side2 A108.out).mono ?_); (case side1 => repeat (first | exact (Kd.V_reads' HO_578003.out).2.2 | (with_reducible refine Kd.C_alloc ?_ _) | (with_reducible refine Kd.C_drewN ?_ _) | (with_reducible refine Kd.C_drew ?_))); (case side2 => exact (Kd.V_reads' HO_578003.out).2.1); rintro e w116 ⟨v662, rfl, ho0, hb⟩; have n0_ := Aside0.mk (Kd.V_elder' (Kd.V_t HO_578003.out) (by first | exact Kd.N_base ho0 | exact Kd.R_base ho0 | exact Kd.S_base ho0 | exact Kd.Q_base ho0) hb); have n1_ := Aside0.mk (Kd.V_elder' (Kd.V_t HO_579003.out) (by first | exact Kd.N_base ho0 | exact Kd.R_base ho0 | exact Kd.S_base ho0 | exact Kd.Q_base ho0) hb); have n2_ := Aside0.mk (Kd.N_elder' (Kd.N_t HO586.out) (by first | exact Kd.N_base ho0 | exact Kd.R_base ho0 | exact Kd.S_base ho0 | exact Kd.Q_base ho0) hb); have n3_ := Aside0.mk (Kd.N_elder' (Kd.N_t HO592.out) (by first | exact Kd.N_base ho0 | exact Kd.R_base ho0 | exact Kd.S_base ho0 | exact Kd.Q_base ho0) hb); have n4_ := Aside0.mk (Kd.N_elder' (Kd.N_t HO610.out) (by first | exact Kd.N_base ho0 | exact Kd.R_base ho0 | exact Kd.S_base ho0 | exact Kd.Q_base ho0) hb); have n5_ := Aside0.mk (Kd.N_elder' (Kd.N_t HO616.out) (by first | exact Kd.N_base ho0 | exact Kd.R_base ho0 | exact Kd.S_base ho0 | exact Kd.Q_base ho0) hb); have n6_ := Aside0.mk (Kd.N_lower (Kd.N_mono (ok' := fun k_ => ((P0_3_ k_ ∨ P1_3_ k_) ∨ w.heap.size ≤ k_) ∧ some k_ ≠ (.slice Ao39 y584.length co39 : Value).ownBlock ∧ some k_ ≠ (.slice Ao45 t590.length co45 : Value).ownBlock ∧ some k_ ≠ (.slice Ao55 t608.length co55 : Value).ownBlock ∧ some k_ ≠ (.slice Ao57 t614.length co57 : Value).ownBlock ∧ k_ ≠ gb577 ∧ k_ ≠ gb578 ∧ k_ ≠ gb593) ho0 (fun k_ hk_ => ⟨(.inr (Nat.le_trans (below_size (by repeat (with_reducible first | exact HB.out | apply below_alloc | apply pw_below_drewN | apply below_drew1 | refine below_set ?_ GE577.out | refine below_set ?_ GE578.out | refine below_set ?_ GE593.out))) hk_)), (Kd.fresh' (Kd.N_lt (Kd.N_t HO586.out)) k_ hk_), (Kd.fresh' (Kd.N_lt (Kd.N_t HO592.out)) k_ hk_), (Kd.fresh' (Kd.N_lt (Kd.N_t HO610.out)) k_ hk_), (Kd.fresh' (Kd.N_lt (Kd.N_t HO616.out)) k_ hk_), (Kd.freshB (bT BK577.out) k_ hk_), (Kd.freshB (bT BK578.out) k_ hk_), (Kd.freshB (bT BK593.out) k_ hk_)⟩)) (below_size (by repeat (with_reducible first | exact HB.out | apply below_alloc | apply pw_below_drewN | apply below_drew1 | refine below_set ?_ GE577.out | refine below_set ?_ GE578.out | refine below_set ?_ GE593.out)))); have n7_ := Aside0.mk (blk_below (bT BK577.out) hb); have n8_ := Aside0.mk (blk_below (bT BK578.out) hb); have n9_ := Aside0.mk (blk_below (bT BK593.out) hb); have n10_ := Aside0.mk (below_step (by repeat (with_reducible first | exact HB.out | apply below_alloc | apply pw_below_drewN | apply below_drew1 | refine below_set ?_ GE577.out | refine below_set ?_ GE578.out | refine below_set ?_ GE593.out)) hb); clear HO_578003; clear HO_579003; clear HO586; clear HO592; clear HO610; clear HO616; clear BK577; clear BK578; clear BK593; clear HB; have HO_578003 := n0_; have HO_579003 := n1_; have HO586 := n2_; have HO592 := n3_; have HO610 := n4_; have HO616 := n5_; have HO663 := n6_; have BK577 := n7_; have BK578 := n8_; have BK593 := n9_; have HB := n10_; clear n0_ n1_ n2_ n3_ n4_ n5_ n6_ n7_ n8_ n9_ n10_; (try clear hb); (try clear hb2); (try clear hk); (try clear hi); (try clear ho0); obtain ⟨Ao117, co117, eo117⟩ := Kd.N_slice HO663.out; subst eo117) | (go_at_call 23; (with_reducible refine (prettydoc_Group.calls kj3 t658 t659 t660 _ _ t661 t664 t665 t666 t667 _ ?side1 ?side2 A109.out).mono ?_); (case side1 => repeat (first | exact (Kd.N_reads' HO663.out).2.2 | (with_reducible refine Kd.C_alloc ?_ _) | (with_reducible refine Kd.C_drewN ?_ _) | (with_reducible refine Kd.C_drew ?_))); (case side2 => exact (Kd.N_reads' HO663.out).2.1); rintro e w118 ⟨v668, rfl, ho0, hb⟩; have n0_ := Aside0.mk (Kd.V_elder' (Kd.V_t HO_578003.out) (by first | exact Kd.N_base ho0 | exact Kd.R_base ho0 | exact Kd.S_base ho0 | exact Kd.Q_base ho0) hb); have n1_ := Aside0.mk (Kd.V_elder' (Kd.V_t HO_579003.out) (by first | exact Kd.N_base ho0 | exact Kd.R_base ho0 | exact Kd.S_base ho0 | exact Kd.Q_base ho0) hb); have n2_ := Aside0.mk (Kd.N_elder' (Kd.N_t HO586.out) (by first | exact Kd.N_base ho0 | exact Kd.R_base ho0 | exact Kd.S_base ho0 | exact Kd.Q_base ho0) hb); have n3_ := Aside0.mk (Kd.N_elder' (Kd.N_t HO592.out) (by first | exact Kd.N_base ho0 | exact Kd.R_base ho0 | exact Kd.S_base ho0 | exact Kd.Q_base ho0) hb); have n4_ := Aside0.mk (Kd.N_elder' (Kd.N_t HO610.out) (by first | exact Kd.N_base ho0 | exact Kd.R_base ho0 | exact Kd.S_base ho0 | exact Kd.Q_base ho0) hb); have n5_ := Aside0.mk (Kd.N_elder' (Kd.N_t HO616.out) (by first | exact Kd.N_base ho0 | exact Kd.R_base ho0 | exact Kd.S_base ho0 | exact Kd.Q_base ho0) hb); have n6_ := Aside0.mk (Kd.N_elder' (Kd.N_t HO663.out) (by first | exact Kd.N_base ho0 | exact Kd.R_base ho0 | exact Kd.S_base ho0 | exact Kd.Q_base ho0) hb); have n7_ := Aside0.mk (Kd.N_lower (Kd.N_mono (ok' := fun k_ => ((P0_3_ k_ ∨ P1_3_ k_) ∨ w.heap.size ≤ k_) ∧ some k_ ≠ (.slice Ao39 y584.length co39 : Value).ownBlock ∧ some k_ ≠ (.slice Ao45 t590.length co45 : Value).ownBlock ∧ some k_ ≠ (.slice Ao55 t608.length co55 : Value).ownBlock ∧ some k_ ≠ (.slice Ao57 t614.length co57 : Value).ownBlock ∧ some k_ ≠ (.slice Ao117 t661.length co117 : Value).ownBlock ∧ k_ ≠ gb577 ∧ k_ ≠ gb578 ∧ k_ ≠ gb593) ho0 (fun k_ hk_ => ⟨(.inr (Nat.le_trans (below_size (by repeat (with_reducible first | exact HB.out | apply below_alloc | apply pw_below_drewN | apply below_drew1 | refine below_set ?_ GE577.out | refine below_set ?_ GE578.out | refine below_set ?_ GE593.out))) hk_)), (Kd.fresh' (Kd.N_lt (Kd.N_t HO586.out)) k_ hk_), (Kd.fresh' (Kd.N_lt (Kd.N_t HO592.out)) k_ hk_), (Kd.fresh' (Kd.N_lt (Kd.N_t HO610.out)) k_ hk_), (Kd.fresh' (Kd.N_lt (Kd.N_t HO616.out)) k_ hk_), (Kd.fresh' (Kd.N_lt (Kd.N_t HO663.out)) k_ hk_), (Kd.freshB (bT BK577.out) k_ hk_), (Kd.freshB (bT BK578.out) k_ hk_), (Kd.freshB (bT BK593.out) k_ hk_)⟩)) (below_size (by repeat (with_reducible first | exact HB.out | apply below_alloc | apply pw_below_drewN | apply below_drew1 | refine below_set ?_ GE577.out | refine below_set ?_ GE578.out | refine below_set ?_ GE593.out)))); have n8_ := Aside0.mk (blk_below (bT BK577.out) hb); have n9_ := Aside0.mk (blk_below (bT BK578.out) hb); have n10_ := Aside0.mk (blk_below (bT BK593.out) hb); have n11_ := Aside0.mk (below_step (by repeat (with_reducible first | exact HB.out | apply below_alloc | apply pw_below_drewN | apply below_drew1 | refine below_set ?_ GE577.out | refine below_set ?_ GE578.out | refine below_set ?_ GE593.out)) hb); clear HO_578003; clear HO_579003; clear HO586; clear HO592; clear HO610; clear HO616; clear HO663; clear BK577; clear BK578; clear BK593; clear HB; have HO_578003 := n0_; have HO_579003 := n1_; have HO586 := n2_; have HO592 := n3_; have HO610 := n4_; have HO616 := n5_; have HO663 := n6_; have HO669 := n7_; have BK577 := n8_; have BK578 := n9_; have BK593 := n10_; have HB := n11_; clear n0_ n1_ n2_ n3_ n4_ n5_ n6_ n7_ n8_ n9_ n10_ n11_; (try clear hb); (try clear hb2); (try clear hk); (try clear hi); (try clear ho0); obtain ⟨Ao119, co119, eo119⟩ := Kd.N_slice HO669.out; subst eo119) | (go_at_call 11; (with_reducible refine (prettydoc_Right.calls kj3 t664 t665 t666 _ _ t667 t670 _ ?side1 ?side2 A110.out).mono ?_); (case side1 => repeat (first | exact (Kd.N_reads' HO669.out).2.2 | (with_reducible refine Kd.C_alloc ?_ _) | (with_reducible refine Kd.C_drewN ?_ _) | (with_reducible refine Kd.C_drew ?_))); (case side2 => exact (Kd.N_reads' HO669.out).2.1); rintro e w120 ⟨rfl, hb⟩; have n0_ := Aside0.mk (Kd.V_below (Kd.V_t HO_578003.out) hb); have n1_ := Aside0.mk (Kd.V_below (Kd.V_t HO_579003.out) hb); have n2_ := Aside0.mk (Kd.N_below (Kd.N_t HO586.out) hb); have n3_ := Aside0.mk (Kd.N_below (Kd.N_t HO592.out) hb); have n4_ := Aside0.mk (Kd.N_below (Kd.N_t HO610.out) hb); have n5_ := Aside0.mk (Kd.N_below (Kd.N_t HO616.out) hb); have n6_ := Aside0.mk (Kd.N_below (Kd.N_t HO663.out) hb); have n7_ := Aside0.mk (Kd.N_below (Kd.N_t HO669.out) hb); have n8_ := Aside0.mk (blk_below (bT BK577.out) hb); have n9_ := Aside0.mk (blk_below (bT BK578.out) hb); have n10_ := Aside0.mk (blk_below (bT BK593.out) hb); have n11_ := Aside0.mk (below_step (by repeat (with_reducible first | exact HB.out | apply below_alloc | apply pw_below_drewN | apply below_drew1 | refine below_set ?_ GE577.out | refine below_set ?_ GE578.out | refine below_set ?_ GE593.out)) hb); clear HO_578003; clear HO_579003; clear HO586; clear HO592; clear HO610; clear HO616; clear HO663; clear HO669; clear BK577; clear BK578; clear BK593; clear HB; have HO_578003 := n0_; have HO_579003 := n1_; have HO586 := n2_; have HO592 := n3_; have HO610 := n4_; have HO616 := n5_; have HO663 := n6_; have HO669 := n7_; have BK577 := n8_; have BK578 := n9_; have BK593 := n10_; have HB := n11_; clear n0_ n1_ n2_ n3_ n4_ n5_ n6_ n7_ n8_ n9_ n10_ n11_; (try clear hb); (try clear hb2); (try clear hk); (try clear hi)))
           go_meet
           case rel => exact ⟨_, ((t617.toList != t599.toList)), (by first | rfl | (simp; done) | (simp [*]; done)), H', ⟨by have := HJ3.out; first | omega | exact Nat.le_refl _⟩, ⟨Kd.V_t (Kd.V_mono HO_578003.out (fun _ hk => ⟨hk.1.1.1.1.1.1.1.1, ⟨hk.1.1.1.1.1.2, ⟨hk.1.1.1.1.1.1.1.2.1, ⟨hk.1.1.1.1.1.1.1.2.2, hk.1.1.1.1.2⟩⟩⟩⟩))⟩, ⟨Kd.V_t (Kd.V_mono HO_579003.out (fun _ hk => ⟨hk.1.1.1.1.1.1.1.1, ⟨hk.1.1.1.1.1.2, ⟨hk.1.1.1.1.1.1.1.2.1, ⟨hk.1.1.1.1.1.1.1.2.2, hk.1.1.1.1.2⟩⟩⟩⟩))⟩, ⟨Kd.N_t (Kd.N_mono HO592.out (fun _ hk => ⟨hk.1.1.1.1.1.1, ⟨hk.1.1.1.1.1.2.2.1, ⟨hk.1.1.1.1.1.2.2.2, hk.1.1.1.1.2⟩⟩⟩))⟩, ⟨bT BK577.out⟩, ⟨bT BK578.out⟩, ⟨bT BK593.out⟩, ⟨by repeat (with_reducible first | exact HB.out | apply below_alloc | apply pw_below_drewN | apply below_drew1 | refine below_set ?_ GE577.out | refine below_set ?_ GE578.out | refine below_set ?_ GE593.out)⟩⟩
         ·rw [if_neg c111] at H
          have c111b0 : (t670 == 0) = false := beq_eq_false_iff_ne.mpr c111
          have c111b1 : (t670 != 0) = true := bne_iff_ne.mpr c111
          have H' := Aside0.mk H
          clear H
          have hnb121 := NB577_578.out
          have hnc121 := NB578_577.out
          have hnb122 := NB577_593.out
          have hnc122 := NB593_577.out
          have hcz123_0 : w58.cell? ⟨gb577, 0, none⟩ = some (.int .i64 a0_0) := (blk_cell BK577.out 0).trans rfl
          have hcz123_1 : w58.cell? ⟨gb577, 1, none⟩ = some (.string a0_1) := (blk_cell BK577.out 1).trans rfl
          have hcz123_2 : w58.cell? ⟨gb577, 2, none⟩ = some (.int .i64 a0_2) := (blk_cell BK577.out 2).trans rfl
          have hcz123_3 : w58.cell? ⟨gb577, 3, none⟩ = some (.slice A0_3 l0_3.length c0_3) := (blk_cell BK577.out 3).trans rfl
          have hfz123_0 := blk_frozen BK577.out 0
          have hfz123_1 := blk_frozen BK577.out 1
          have hfz123_2 := blk_frozen BK577.out 2
          have hfz123_3 := blk_frozen BK577.out 3
          go_wp2_with (first | (go_at_call 21; (with_reducible refine (prettydoc_Nest.calls kj3 1 a0_0 a0_1 a0_2 _ _ l0_3 t658 t659 t660 t661 _ ?side1 ?side2 A108.out).mono ?_); (case side1 => repeat (first | exact (Kd.V_reads' HO_578003.out).2.2 | (with_reducible refine Kd.C_alloc ?_ _) | (with_reducible refine Kd.C_drewN ?_ _) | (with_reducible refine Kd.C_drew ?_))); (case side2 => exact (Kd.V_reads' HO_578003.out).2.1); rintro e w124 ⟨v662, rfl, ho0, hb⟩; have n0_ := Aside0.mk (Kd.V_elder' (Kd.V_t HO_578003.out) (by first | exact Kd.N_base ho0 | exact Kd.R_base ho0 | exact Kd.S_base ho0 | exact Kd.Q_base ho0) hb); have n1_ := Aside0.mk (Kd.V_elder' (Kd.V_t HO_579003.out) (by first | exact Kd.N_base ho0 | exact Kd.R_base ho0 | exact Kd.S_base ho0 | exact Kd.Q_base ho0) hb); have n2_ := Aside0.mk (Kd.N_elder' (Kd.N_t HO586.out) (by first | exact Kd.N_base ho0 | exact Kd.R_base ho0 | exact Kd.S_base ho0 | exact Kd.Q_base ho0) hb); have n3_ := Aside0.mk (Kd.N_elder' (Kd.N_t HO592.out) (by first | exact Kd.N_base ho0 | exact Kd.R_base ho0 | exact Kd.S_base ho0 | exact Kd.Q_base ho0) hb); have n4_ := Aside0.mk (Kd.N_elder' (Kd.N_t HO610.out) (by first | exact Kd.N_base ho0 | exact Kd.R_base ho0 | exact Kd.S_base ho0 | exact Kd.Q_base ho0) hb); have n5_ := Aside0.mk (Kd.N_elder' (Kd.N_t HO616.out) (by first | exact Kd.N_base ho0 | exact Kd.R_base ho0 | exact Kd.S_base ho0 | exact Kd.Q_base ho0) hb); have n6_ := Aside0.mk (Kd.N_lower (Kd.N_mono (ok' := fun k_ => ((P0_3_ k_ ∨ P1_3_ k_) ∨ w.heap.size ≤ k_) ∧ some k_ ≠ (.slice Ao39 y584.length co39 : Value).ownBlock ∧ some k_ ≠ (.slice Ao45 t590.length co45 : Value).ownBlock ∧ some k_ ≠ (.slice Ao55 t608.length co55 : Value).ownBlock ∧ some k_ ≠ (.slice Ao57 t614.length co57 : Value).ownBlock ∧ k_ ≠ gb577 ∧ k_ ≠ gb578 ∧ k_ ≠ gb593) ho0 (fun k_ hk_ => ⟨(.inr (Nat.le_trans (below_size (by repeat (with_reducible first | exact HB.out | apply below_alloc | apply pw_below_drewN | apply below_drew1 | refine below_set ?_ GE577.out | refine below_set ?_ GE578.out | refine below_set ?_ GE593.out))) hk_)), (Kd.fresh' (Kd.N_lt (Kd.N_t HO586.out)) k_ hk_), (Kd.fresh' (Kd.N_lt (Kd.N_t HO592.out)) k_ hk_), (Kd.fresh' (Kd.N_lt (Kd.N_t HO610.out)) k_ hk_), (Kd.fresh' (Kd.N_lt (Kd.N_t HO616.out)) k_ hk_), (Kd.freshB (bT BK577.out) k_ hk_), (Kd.freshB (bT BK578.out) k_ hk_), (Kd.freshB (bT BK593.out) k_ hk_)⟩)) (below_size (by repeat (with_reducible first | exact HB.out | apply below_alloc | apply pw_below_drewN | apply below_drew1 | refine below_set ?_ GE577.out | refine below_set ?_ GE578.out | refine below_set ?_ GE593.out)))); have n7_ := Aside0.mk (blk_below (bT BK577.out) hb); have n8_ := Aside0.mk (blk_below (bT BK578.out) hb); have n9_ := Aside0.mk (blk_below (bT BK593.out) hb); have n10_ := Aside0.mk (below_step (by repeat (with_reducible first | exact HB.out | apply below_alloc | apply pw_below_drewN | apply below_drew1 | refine below_set ?_ GE577.out | refine below_set ?_ GE578.out | refine below_set ?_ GE593.out)) hb); clear HO_578003; clear HO_579003; clear HO586; clear HO592; clear HO610; clear HO616; clear BK577; clear BK578; clear BK593; clear HB; have HO_578003 := n0_; have HO_579003 := n1_; have HO586 := n2_; have HO592 := n3_; have HO610 := n4_; have HO616 := n5_; have HO663 := n6_; have BK577 := n7_; have BK578 := n8_; have BK593 := n9_; have HB := n10_; clear n0_ n1_ n2_ n3_ n4_ n5_ n6_ n7_ n8_ n9_ n10_; (try clear hb); (try clear hb2); (try clear hk); (try clear hi); (try clear ho0); obtain ⟨Ao125, co125, eo125⟩ := Kd.N_slice HO663.out; subst eo125) | (go_at_call 23; (with_reducible refine (prettydoc_Group.calls kj3 t658 t659 t660 _ _ t661 t664 t665 t666 t667 _ ?side1 ?side2 A109.out).mono ?_); (case side1 => repeat (first | exact (Kd.N_reads' HO663.out).2.2 | (with_reducible refine Kd.C_alloc ?_ _) | (with_reducible refine Kd.C_drewN ?_ _) | (with_reducible refine Kd.C_drew ?_))); (case side2 => exact (Kd.N_reads' HO663.out).2.1); rintro e w126 ⟨v668, rfl, ho0, hb⟩; have n0_ := Aside0.mk (Kd.V_elder' (Kd.V_t HO_578003.out) (by first | exact Kd.N_base ho0 | exact Kd.R_base ho0 | exact Kd.S_base ho0 | exact Kd.Q_base ho0) hb); have n1_ := Aside0.mk (Kd.V_elder' (Kd.V_t HO_579003.out) (by first | exact Kd.N_base ho0 | exact Kd.R_base ho0 | exact Kd.S_base ho0 | exact Kd.Q_base ho0) hb); have n2_ := Aside0.mk (Kd.N_elder' (Kd.N_t HO586.out) (by first | exact Kd.N_base ho0 | exact Kd.R_base ho0 | exact Kd.S_base ho0 | exact Kd.Q_base ho0) hb); have n3_ := Aside0.mk (Kd.N_elder' (Kd.N_t HO592.out) (by first | exact Kd.N_base ho0 | exact Kd.R_base ho0 | exact Kd.S_base ho0 | exact Kd.Q_base ho0) hb); have n4_ := Aside0.mk (Kd.N_elder' (Kd.N_t HO610.out) (by first | exact Kd.N_base ho0 | exact Kd.R_base ho0 | exact Kd.S_base ho0 | exact Kd.Q_base ho0) hb); have n5_ := Aside0.mk (Kd.N_elder' (Kd.N_t HO616.out) (by first | exact Kd.N_base ho0 | exact Kd.R_base ho0 | exact Kd.S_base ho0 | exact Kd.Q_base ho0) hb); have n6_ := Aside0.mk (Kd.N_elder' (Kd.N_t HO663.out) (by first | exact Kd.N_base ho0 | exact Kd.R_base ho0 | exact Kd.S_base ho0 | exact Kd.Q_base ho0) hb); have n7_ := Aside0.mk (Kd.N_lower (Kd.N_mono (ok' := fun k_ => ((P0_3_ k_ ∨ P1_3_ k_) ∨ w.heap.size ≤ k_) ∧ some k_ ≠ (.slice Ao39 y584.length co39 : Value).ownBlock ∧ some k_ ≠ (.slice Ao45 t590.length co45 : Value).ownBlock ∧ some k_ ≠ (.slice Ao55 t608.length co55 : Value).ownBlock ∧ some k_ ≠ (.slice Ao57 t614.length co57 : Value).ownBlock ∧ some k_ ≠ (.slice Ao125 t661.length co125 : Value).ownBlock ∧ k_ ≠ gb577 ∧ k_ ≠ gb578 ∧ k_ ≠ gb593) ho0 (fun k_ hk_ => ⟨(.inr (Nat.le_trans (below_size (by repeat (with_reducible first | exact HB.out | apply below_alloc | apply pw_below_drewN | apply below_drew1 | refine below_set ?_ GE577.out | refine below_set ?_ GE578.out | refine below_set ?_ GE593.out))) hk_)), (Kd.fresh' (Kd.N_lt (Kd.N_t HO586.out)) k_ hk_), (Kd.fresh' (Kd.N_lt (Kd.N_t HO592.out)) k_ hk_), (Kd.fresh' (Kd.N_lt (Kd.N_t HO610.out)) k_ hk_), (Kd.fresh' (Kd.N_lt (Kd.N_t HO616.out)) k_ hk_), (Kd.fresh' (Kd.N_lt (Kd.N_t HO663.out)) k_ hk_), (Kd.freshB (bT BK577.out) k_ hk_), (Kd.freshB (bT BK578.out) k_ hk_), (Kd.freshB (bT BK593.out) k_ hk_)⟩)) (below_size (by repeat (with_reducible first | exact HB.out | apply below_alloc | apply pw_below_drewN | apply below_drew1 | refine below_set ?_ GE577.out | refine below_set ?_ GE578.out | refine below_set ?_ GE593.out)))); have n8_ := Aside0.mk (blk_below (bT BK577.out) hb); have n9_ := Aside0.mk (blk_below (bT BK578.out) hb); have n10_ := Aside0.mk (blk_below (bT BK593.out) hb); have n11_ := Aside0.mk (below_step (by repeat (with_reducible first | exact HB.out | apply below_alloc | apply pw_below_drewN | apply below_drew1 | refine below_set ?_ GE577.out | refine below_set ?_ GE578.out | refine below_set ?_ GE593.out)) hb); clear HO_578003; clear HO_579003; clear HO586; clear HO592; clear HO610; clear HO616; clear HO663; clear BK577; clear BK578; clear BK593; clear HB; have HO_578003 := n0_; have HO_579003 := n1_; have HO586 := n2_; have HO592 := n3_; have HO610 := n4_; have HO616 := n5_; have HO663 := n6_; have HO669 := n7_; have BK577 := n8_; have BK578 := n9_; have BK593 := n10_; have HB := n11_; clear n0_ n1_ n2_ n3_ n4_ n5_ n6_ n7_ n8_ n9_ n10_ n11_; (try clear hb); (try clear hb2); (try clear hk); (try clear hi); (try clear ho0); obtain ⟨Ao127, co127, eo127⟩ := Kd.N_slice HO669.out; subst eo127) | (go_at_call 11; (with_reducible refine (prettydoc_Right.calls kj3 t664 t665 t666 _ _ t667 t670 _ ?side1 ?side2 A110.out).mono ?_); (case side1 => repeat (first | exact (Kd.N_reads' HO669.out).2.2 | (with_reducible refine Kd.C_alloc ?_ _) | (with_reducible refine Kd.C_drewN ?_ _) | (with_reducible refine Kd.C_drew ?_))); (case side2 => exact (Kd.N_reads' HO669.out).2.1); rintro e w128 ⟨rfl, hb⟩; have n0_ := Aside0.mk (Kd.V_below (Kd.V_t HO_578003.out) hb); have n1_ := Aside0.mk (Kd.V_below (Kd.V_t HO_579003.out) hb); have n2_ := Aside0.mk (Kd.N_below (Kd.N_t HO586.out) hb); have n3_ := Aside0.mk (Kd.N_below (Kd.N_t HO592.out) hb); have n4_ := Aside0.mk (Kd.N_below (Kd.N_t HO610.out) hb); have n5_ := Aside0.mk (Kd.N_below (Kd.N_t HO616.out) hb); have n6_ := Aside0.mk (Kd.N_below (Kd.N_t HO663.out) hb); have n7_ := Aside0.mk (Kd.N_below (Kd.N_t HO669.out) hb); have n8_ := Aside0.mk (blk_below (bT BK577.out) hb); have n9_ := Aside0.mk (blk_below (bT BK578.out) hb); have n10_ := Aside0.mk (blk_below (bT BK593.out) hb); have n11_ := Aside0.mk (below_step (by repeat (with_reducible first | exact HB.out | apply below_alloc | apply pw_below_drewN | apply below_drew1 | refine below_set ?_ GE577.out | refine below_set ?_ GE578.out | refine below_set ?_ GE593.out)) hb); clear HO_578003; clear HO_579003; clear HO586; clear HO592; clear HO610; clear HO616; clear HO663; clear HO669; clear BK577; clear BK578; clear BK593; clear HB; have HO_578003 := n0_; have HO_579003 := n1_; have HO586 := n2_; have HO592 := n3_; have HO610 := n4_; have HO616 := n5_; have HO663 := n6_; have HO669 := n7_; have BK577 := n8_; have BK578 := n9_; have BK593 := n10_; have HB := n11_; clear n0_ n1_ n2_ n3_ n4_ n5_ n6_ n7_ n8_ n9_ n10_ n11_; (try clear hb); (try clear hb2); (try clear hk); (try clear hi)))
          go_meet
          case rel => exact ⟨_, (false), (by first | rfl | (simp; done) | (simp [*]; done)), H', ⟨by have := HJ3.out; first | omega | exact Nat.le_refl _⟩, ⟨Kd.V_t (Kd.V_mono HO_578003.out (fun _ hk => ⟨hk.1.1.1.1.1.1.1.1, ⟨hk.1.1.1.1.1.2, ⟨hk.1.1.1.1.1.1.1.2.1, ⟨hk.1.1.1.1.1.1.1.2.2, hk.1.1.1.1.2⟩⟩⟩⟩))⟩, ⟨Kd.V_t (Kd.V_mono HO_579003.out (fun _ hk => ⟨hk.1.1.1.1.1.1.1.1, ⟨hk.1.1.1.1.1.2, ⟨hk.1.1.1.1.1.1.1.2.1, ⟨hk.1.1.1.1.1.1.1.2.2, hk.1.1.1.1.2⟩⟩⟩⟩))⟩, ⟨Kd.N_t (Kd.N_mono HO592.out (fun _ hk => ⟨hk.1.1.1.1.1.1, ⟨hk.1.1.1.1.1.2.2.1, ⟨hk.1.1.1.1.1.2.2.2, hk.1.1.1.1.2⟩⟩⟩))⟩, ⟨bT BK577.out⟩, ⟨bT BK578.out⟩, ⟨bT BK593.out⟩, ⟨by repeat (with_reducible first | exact HB.out | apply below_alloc | apply pw_below_drewN | apply below_drew1 | refine below_set ?_ GE577.out | refine below_set ?_ GE578.out | refine below_set ?_ GE593.out)⟩⟩
     case rest =>
      clear HC33
      try clear c1
      try clear c2
      try clear p2
      try clear c3
      try clear c4
      try clear c5
      try clear c6
      try clear p6
      try clear c7
      try clear c8
      try clear c9
      try clear c10
      try clear c11
      try clear c12
      try clear c12b0
      try clear c12b1
      try clear c14
      try clear c19
      try clear c21
      try clear c23
      try clear c26
      try clear c26b0
      try clear c26b1
      try clear c27
      try clear c34
      try clear c42
      try clear c43
      try clear c59
      try clear c60
      try clear c60b0
      try clear c60b1
      try clear c60b2
      try clear c61
      try clear c62
      try clear c62b0
      try clear c62b1
      try clear c62b2
      try clear c63
      try clear c63b0
      try clear c63b1
      try clear p64
      try clear c67
      try clear c67b0
      try clear c67b1
      try clear c68
      try clear c68b0
      try clear c68b1
      try clear c68b2
      try clear c69
      try clear c70
      try clear c77
      try clear c78
      try clear c88
      try clear c88b0
      try clear c88b1
      try clear c89
      try clear c89b0
      try clear c89b1
      try clear c89b2
      try clear c90
      try clear c91
      try clear c98
      try clear c99
      try clear c106
      try clear c106b0
      try clear c106b1
      try clear c106b2
      try clear c107
      try clear c111
      try clear c111b0
      try clear c111b1
      try clear c112
      try clear c112b0
      try clear c112b1
      try clear c112b2
      try clear c113
      try clear c114
      try clear c121
      try clear c122
      try clear hcz100_0
      try clear hcz100_1
      try clear hcz100_2
      try clear hcz100_3
      try clear hcz115_0
      try clear hcz115_1
      try clear hcz115_2
      try clear hcz115_3
      try clear hcz123_0
      try clear hcz123_1
      try clear hcz123_2
      try clear hcz123_3
      try clear hcz15_0
      try clear hcz15_1
      try clear hcz15_2
      try clear hcz15_3
      try clear hcz17_0
      try clear hcz17_1
      try clear hcz17_2
      try clear hcz17_3
      try clear hcz19_0
      try clear hcz19_1
      try clear hcz19_2
      try clear hcz19_3
      try clear hcz21_0
      try clear hcz21_1
      try clear hcz21_2
      try clear hcz21_3
      try clear hcz35_0
      try clear hcz35_1
      try clear hcz35_2
      try clear hcz35_3
      try clear hcz36_0
      try clear hcz36_1
      try clear hcz36_2
      try clear hcz36_3
      try clear hcz44_0
      try clear hcz44_1
      try clear hcz44_2
      try clear hcz44_3
      try clear hcz47_0
      try clear hcz47_1
      try clear hcz47_2
      try clear hcz47_3
      try clear hcz49_0
      try clear hcz49_1
      try clear hcz49_2
      try clear hcz49_3
      try clear hcz51_0
      try clear hcz51_1
      try clear hcz51_2
      try clear hcz51_3
      try clear hcz53_0
      try clear hcz53_1
      try clear hcz53_2
      try clear hcz53_3
      try clear hcz71_0
      try clear hcz71_1
      try clear hcz71_2
      try clear hcz71_3
      try clear hcz79_0
      try clear hcz79_1
      try clear hcz79_2
      try clear hcz79_3
      try clear hcz92_0
      try clear hcz92_1
      try clear hcz92_2
      try clear hcz92_3
      try clear hfz100_0
      try clear hfz100_1
      try clear hfz100_2
      try clear hfz100_3
      try clear hfz115_0
      try clear hfz115_1
      try clear hfz115_2
      try clear hfz115_3
      try clear hfz123_0
      try clear hfz123_1
      try clear hfz123_2
      try clear hfz123_3
      try clear hfz15_0
      try clear hfz15_1
      try clear hfz15_2
      try clear hfz15_3
      try clear hfz17_0
      try clear hfz17_1
      try clear hfz17_2
      try clear hfz17_3
      try clear hfz19_0
      try clear hfz19_1
      try clear hfz19_2
      try clear hfz19_3
      try clear hfz21_0
      try clear hfz21_1
      try clear hfz21_2
      try clear hfz21_3
      try clear hfz35_0
      try clear hfz35_1
      try clear hfz35_2
      try clear hfz35_3
      try clear hfz36_0
      try clear hfz36_1
      try clear hfz36_2
      try clear hfz36_3
      try clear hfz44_0
      try clear hfz44_1
      try clear hfz44_2
      try clear hfz44_3
      try clear hfz47_0
      try clear hfz47_1
      try clear hfz47_2
      try clear hfz47_3
      try clear hfz49_0
      try clear hfz49_1
      try clear hfz49_2
      try clear hfz49_3
      try clear hfz51_0
      try clear hfz51_1
      try clear hfz51_2
      try clear hfz51_3
      try clear hfz53_0
      try clear hfz53_1
      try clear hfz53_2
      try clear hfz53_3
      try clear hfz71_0
      try clear hfz71_1
      try clear hfz71_2
      try clear hfz71_3
      try clear hfz79_0
      try clear hfz79_1
      try clear hfz79_2
      try clear hfz79_3
      try clear hfz92_0
      try clear hfz92_1
      try clear hfz92_2
      try clear hfz92_3
      try clear p2
      try clear HJ32
      try clear HO_578003
      try clear HO_579003
      try clear HO_594003
      try clear BK577
      try clear BK578
      try clear BK593
      try clear HB
      obtain ⟨kq, x110_32, rfl, HA, HJ32, HO_578003, HO_579003, HO_594003, BK577, BK578, BK593, HB⟩ := hcut
      cases kq with
      | zero => exact absurd HA.out (by simp [arboristlaw54_PrettydocJoins_v2.j1])
      | succ kj32 =>
       have H := HA.out
       clear HA
       simp only [arboristlaw54_PrettydocJoins_v2.j1] at H
       by_cases c129 : x110_32 = true
       ·subst c129
        have H1 : (none) = some r := by rw [if_pos rfl] at H; exact H
        clear H
        have H := H1
        clear H1
        exact absurd H (by simp)
       ·replace c129 := Bool.eq_false_iff.mpr c129
        subst c129
        have H1 : ((prettydoc_Size.f kj32 t587 t588 t589 t590).bind fun t671 => ((prettydoc_Size.f kj32 a0_0 a0_1 a0_2 l0_3).bind fun t672 => ((prettydoc_Size.f kj32 a1_0 a1_1 a1_2 l1_3).bind fun t673 => (if t671 = (wrap64 ((wrap64 (1 + t672)) + t673)) then ((prettydoc_Groups.f kj32 t587 t588 t589 t590).bind fun t674 => ((prettydoc_Groups.f kj32 a0_0 a0_1 a0_2 l0_3).bind fun t675 => ((prettydoc_Groups.f kj32 a1_0 a1_1 a1_2 l1_3).bind fun t676 => (if t674 = (wrap64 (t675 + t676)) then ((arboristlaw54_knows.f kj32).bind fun t677 => (some t677)) else (none))))) else (none))))) = some r := by rw [if_neg (show ¬ (false = true) by decide)] at H; exact H
        clear H
        have H := H1
        clear H1
        replace H := Option.bind_eq_some_iff.mp H
        obtain ⟨t671, A1300, H⟩ := H
        replace H : ((prettydoc_Size.f kj32 a0_0 a0_1 a0_2 l0_3).bind fun t672 => ((prettydoc_Size.f kj32 a1_0 a1_1 a1_2 l1_3).bind fun t673 => (if t671 = (wrap64 ((wrap64 (1 + t672)) + t673)) then ((prettydoc_Groups.f kj32 t587 t588 t589 t590).bind fun t674 => ((prettydoc_Groups.f kj32 a0_0 a0_1 a0_2 l0_3).bind fun t675 => ((prettydoc_Groups.f kj32 a1_0 a1_1 a1_2 l1_3).bind fun t676 => (if t674 = (wrap64 (t675 + t676)) then ((arboristlaw54_knows.f kj32).bind fun t677 => (some t677)) else (none))))) else (none)))) = some r := H
        have A130 := Aside0.mk A1300
        clear A1300
        replace H := Option.bind_eq_some_iff.mp H
        obtain ⟨t672, A1310, H⟩ := H
        replace H : ((prettydoc_Size.f kj32 a1_0 a1_1 a1_2 l1_3).bind fun t673 => (if t671 = (wrap64 ((wrap64 (1 + t672)) + t673)) then ((prettydoc_Groups.f kj32 t587 t588 t589 t590).bind fun t674 => ((prettydoc_Groups.f kj32 a0_0 a0_1 a0_2 l0_3).bind fun t675 => ((prettydoc_Groups.f kj32 a1_0 a1_1 a1_2 l1_3).bind fun t676 => (if t674 = (wrap64 (t675 + t676)) then ((arboristlaw54_knows.f kj32).bind fun t677 => (some t677)) else (none))))) else (none))) = some r := H
        have A131 := Aside0.mk A1310
        clear A1310
        replace H := Option.bind_eq_some_iff.mp H
        obtain ⟨t673, A1320, H⟩ := H
        replace H : (if t671 = (wrap64 ((wrap64 (1 + t672)) + t673)) then ((prettydoc_Groups.f kj32 t587 t588 t589 t590).bind fun t674 => ((prettydoc_Groups.f kj32 a0_0 a0_1 a0_2 l0_3).bind fun t675 => ((prettydoc_Groups.f kj32 a1_0 a1_1 a1_2 l1_3).bind fun t676 => (if t674 = (wrap64 (t675 + t676)) then ((arboristlaw54_knows.f kj32).bind fun t677 => (some t677)) else (none))))) else (none)) = some r := H
        have A132 := Aside0.mk A1320
        clear A1320
        by_cases c133 : t671 = (wrap64 ((wrap64 (1 + t672)) + t673))
        ·rw [if_pos c133] at H
         have c133b0 : (t671 == (wrap64 ((wrap64 (1 + t672)) + t673))) = true := beq_iff_eq.mpr c133
         have c133b1 : (t671 != (wrap64 ((wrap64 (1 + t672)) + t673))) = false := bne_eq_false_iff_eq.mpr c133
         clear c133
         replace H := Option.bind_eq_some_iff.mp H
         obtain ⟨t674, A1340, H⟩ := H
         replace H : ((prettydoc_Groups.f kj32 a0_0 a0_1 a0_2 l0_3).bind fun t675 => ((prettydoc_Groups.f kj32 a1_0 a1_1 a1_2 l1_3).bind fun t676 => (if t674 = (wrap64 (t675 + t676)) then ((arboristlaw54_knows.f kj32).bind fun t677 => (some t677)) else (none)))) = some r := H
         have A134 := Aside0.mk A1340
         clear A1340
         replace H := Option.bind_eq_some_iff.mp H
         obtain ⟨t675, A1350, H⟩ := H
         replace H : ((prettydoc_Groups.f kj32 a1_0 a1_1 a1_2 l1_3).bind fun t676 => (if t674 = (wrap64 (t675 + t676)) then ((arboristlaw54_knows.f kj32).bind fun t677 => (some t677)) else (none))) = some r := H
         have A135 := Aside0.mk A1350
         clear A1350
         replace H := Option.bind_eq_some_iff.mp H
         obtain ⟨t676, A1360, H⟩ := H
         replace H : (if t674 = (wrap64 (t675 + t676)) then ((arboristlaw54_knows.f kj32).bind fun t677 => (some t677)) else (none)) = some r := H
         have A136 := Aside0.mk A1360
         clear A1360
         by_cases c137 : t674 = (wrap64 (t675 + t676))
         ·rw [if_pos c137] at H
          have c137b0 : (t674 == (wrap64 (t675 + t676))) = true := beq_iff_eq.mpr c137
          have c137b1 : (t674 != (wrap64 (t675 + t676))) = false := bne_eq_false_iff_eq.mpr c137
          clear c137
          replace H := Option.bind_eq_some_iff.mp H
          obtain ⟨t677, A1380, H⟩ := H
          replace H : (some t677) = some r := H
          have A138 := Aside0.mk A1380
          clear A1380
          obtain rfl := Option.some.inj H
          try go_wp2
          have n0_ := Aside0.mk (Kd.V_drew HO_578003.out)
          have n1_ := Aside0.mk (Kd.V_drew HO_579003.out)
          have n2_ := Aside0.mk (Kd.N_drew HO_594003.out)
          have n3_ := Aside0.mk (blk_drew BK577.out)
          have n4_ := Aside0.mk (blk_drew BK578.out)
          have n5_ := Aside0.mk (blk_drew BK593.out)
          have n6_ := Aside0.mk (below_drew1 HB.out)
          clear HO_578003
          clear HO_579003
          clear HO_594003
          clear BK577
          clear BK578
          clear BK593
          clear HB
          have HO_578003 := n0_
          have HO_579003 := n1_
          have HO_594003 := n2_
          have BK577 := n3_
          have BK578 := n4_
          have BK593 := n5_
          have HB := n6_
          clear n0_ n1_ n2_ n3_ n4_ n5_ n6_
          refine start_ (n := 23) (S := fun w' => w'.cell? ⟨gb593, 0, none⟩ = some (.int .i64 t587) ∧ w'.cell? ⟨gb593, 1, none⟩ = some (.string t588) ∧ w'.cell? ⟨gb593, 2, none⟩ = some (.int .i64 t589) ∧ w'.cell? ⟨gb593, 3, none⟩ = some (.slice Ao45 t590.length co45) ∧ w'.cell? ⟨gb577, 0, none⟩ = some (.int .i64 a0_0) ∧ w'.cell? ⟨gb577, 1, none⟩ = some (.string a0_1) ∧ w'.cell? ⟨gb577, 2, none⟩ = some (.int .i64 a0_2) ∧ w'.cell? ⟨gb577, 3, none⟩ = some (.slice A0_3 l0_3.length c0_3) ∧ w'.cell? ⟨gb578, 0, none⟩ = some (.int .i64 a1_0) ∧ w'.cell? ⟨gb578, 1, none⟩ = some (.string a1_1) ∧ w'.cell? ⟨gb578, 2, none⟩ = some (.int .i64 a1_2) ∧ w'.cell? ⟨gb578, 3, none⟩ = some (.slice A1_3 l1_3.length c1_3)) (ds := []) #[false, false, false, false, false, false, false, false, false, false, false, false, false, false, false, false, false, false, false, false, false, false, false] (by kernel_rfl) rfl rfl ⟨(blk_cell BK593.out 0).trans rfl, (blk_cell BK593.out 1).trans rfl, (blk_cell BK593.out 2).trans rfl, (blk_cell BK593.out 3).trans rfl, (blk_cell BK577.out 0).trans rfl, (blk_cell BK577.out 1).trans rfl, (blk_cell BK577.out 2).trans rfl, (blk_cell BK577.out 3).trans rfl, (blk_cell BK578.out 0).trans rfl, (blk_cell BK578.out 1).trans rfl, (blk_cell BK578.out 2).trans rfl, (blk_cell BK578.out 3).trans rfl⟩ (fun hHeld => ?_); refine with_tabW arboristlaw54_PrettydocJoins_v2.tab12 arboristlaw54_PrettydocJoins_v2.bits12 (fun HT_ HW_ => ?_)
          generalize wc.drew = w139 at HO_578003 HO_579003 HO_594003 BK577 BK578 BK593 HB hHeld ⊢
          refine take_ (i := 0) (N := some 111) (v := ?_) (a' := ?_) #[true, false, false, false, false, false, false, false, false, false, false, false, false, false, false, false, false, false, false, false, false, false, false] rfl rfl (take_ofW HT_.out HW_.out (by kernel_rfl)) (fun _ _ _ h => h) (Or.inl ⟨by rfl, ?_⟩) hHeld ?_ ?_
          rotate_left
          ·rintro w' ⟨s0, s1, s2, s3, s4, s5, s6, s7, s8, s9, s10, s11⟩
           go_simp
           with_reducible rfl
          rotate_left
          ·simp only [Act.put, List.setIfInBounds_toArray, List.set_cons_zero, List.set_cons_succ, i64_w, i32_w]
           rfl
          refine take_ (i := 2) (N := some 113) (v := ?_) (a' := ?_) #[true, false, true, false, false, false, false, false, false, false, false, false, false, false, false, false, false, false, false, false, false, false, false] rfl rfl (take_ofW HT_.out HW_.out (by kernel_rfl)) (fun _ _ _ h => h) (Or.inl ⟨by rfl, ?_⟩) hHeld ?_ ?_
          rotate_left
          ·rintro w' ⟨s0, s1, s2, s3, s4, s5, s6, s7, s8, s9, s10, s11⟩
           go_simp
           with_reducible rfl
          rotate_left
          ·simp only [Act.put, List.setIfInBounds_toArray, List.set_cons_zero, List.set_cons_succ, i64_w, i32_w]
           rfl
          refine take_ (i := 5) (N := some 116) (v := ?_) (a' := ?_) #[true, false, true, false, false, true, false, false, false, false, false, false, false, false, false, false, false, false, false, false, false, false, false] rfl rfl (take_ofW HT_.out HW_.out (by kernel_rfl)) (fun _ _ _ h => h) (Or.inl ⟨by rfl, ?_⟩) hHeld ?_ ?_
          rotate_left
          ·rintro w' ⟨s0, s1, s2, s3, s4, s5, s6, s7, s8, s9, s10, s11⟩
           go_simp
           with_reducible rfl
          rotate_left
          ·simp only [Act.put, List.setIfInBounds_toArray, List.set_cons_zero, List.set_cons_succ, i64_w, i32_w]
           rfl
          refine one_ (i := 1) (N := some 112) #[true, true, true, false, false, true, false, false, false, false, false, false, false, false, false, false, false, false, false, false, false, false, false] rfl rfl (one_of HT_.out (by kernel_rfl)) (by decide) (fun K hK => ?_)
          refine goes_ Try.func13 (by kernel_rfl) rfl #[.agg #[.int .i64 t587, .string t588, .int .i64 t589, .slice Ao45 t590.length co45]] (by rfl) rfl rfl (by (try simp only [List.map_toArray, List.map_cons, List.map_nil]); first | done | rfl | (simp only [List.length_drop, List.length_take]; rfl)) ?_
          with_reducible refine (prettydoc_Size.calls kj32 t587 t588 t589 _ _ t590 t671 _ ?side1 ?side2 A130.out).mono ?_
          (case side1 => repeat (first | exact (Kd.N_reads' HO_594003.out).2.2 | (with_reducible refine Kd.C_alloc ?_ _) | (with_reducible refine Kd.C_drewN ?_ _) | (with_reducible refine Kd.C_drew ?_)))
          (case side2 => exact (Kd.N_reads' HO_594003.out).2.1)
          rintro e w140 ⟨rfl, hb⟩
          refine ⟨_, rfl, ?_⟩
          have n0_ := Aside0.mk (Kd.V_below (Kd.V_t HO_578003.out) hb)
          have n1_ := Aside0.mk (Kd.V_below (Kd.V_t HO_579003.out) hb)
          have n2_ := Aside0.mk (Kd.N_below (Kd.N_t HO_594003.out) hb)
          have n3_ := Aside0.mk (blk_below (bT BK577.out) hb)
          have n4_ := Aside0.mk (blk_below (bT BK578.out) hb)
          have n5_ := Aside0.mk (blk_below (bT BK593.out) hb)
          have n6_ := Aside0.mk (below_step (by repeat (with_reducible first | exact HB.out | apply below_alloc | apply pw_below_drewN | apply below_drew1 | refine below_set ?_ GE577.out | refine below_set ?_ GE578.out | refine below_set ?_ GE593.out)) hb)
          clear HO_578003
          clear HO_579003
          clear HO_594003
          clear BK577
          clear BK578
          clear BK593
          clear HB
          have HO_578003 := n0_
          have HO_579003 := n1_
          have HO_594003 := n2_
          have BK577 := n3_
          have BK578 := n4_
          have BK593 := n5_
          have HB := n6_
          clear n0_ n1_ n2_ n3_ n4_ n5_ n6_
          (try clear hb)
          (try clear hb2)
          (try clear hk)
          (try clear hi)
          refine hK.out _ _ ⟨(blk_cell BK593.out 0).trans rfl, (blk_cell BK593.out 1).trans rfl, (blk_cell BK593.out 2).trans rfl, (blk_cell BK593.out 3).trans rfl, (blk_cell BK577.out 0).trans rfl, (blk_cell BK577.out 1).trans rfl, (blk_cell BK577.out 2).trans rfl, (blk_cell BK577.out 3).trans rfl, (blk_cell BK578.out 0).trans rfl, (blk_cell BK578.out 1).trans rfl, (blk_cell BK578.out 2).trans rfl, (blk_cell BK578.out 3).trans rfl⟩ (fun hHeld => ?_)
          clear hK K
          refine norm_ (a' := ?_) ?_ ?_
          rotate_left
          ·show Act.put _ (some 112) _ = _
           simp only [Act.put, List.setIfInBounds_toArray, List.set_cons_zero, List.set_cons_succ, i64_w, i32_w]
           rfl
          refine one_ (i := 3) (N := some 114) #[true, true, true, true, false, true, false, false, false, false, false, false, false, false, false, false, false, false, false, false, false, false, false] rfl rfl (one_of HT_.out (by kernel_rfl)) (by decide) (fun K hK => ?_)
          refine goes_ Try.func13 (by kernel_rfl) rfl #[.agg #[.int .i64 a0_0, .string a0_1, .int .i64 a0_2, .slice A0_3 l0_3.length c0_3]] (by rfl) rfl rfl (by (try simp only [List.map_toArray, List.map_cons, List.map_nil]); first | done | rfl | (simp only [List.length_drop, List.length_take]; rfl)) ?_
          with_reducible refine (prettydoc_Size.calls kj32 a0_0 a0_1 a0_2 _ _ l0_3 t672 _ ?side1 ?side2 A131.out).mono ?_
          (case side1 => repeat (first | exact (Kd.V_reads' HO_578003.out).2.2 | (with_reducible refine Kd.C_alloc ?_ _) | (with_reducible refine Kd.C_drewN ?_ _) | (with_reducible refine Kd.C_drew ?_)))
          (case side2 => exact (Kd.V_reads' HO_578003.out).2.1)
          rintro e w141 ⟨rfl, hb⟩
          refine ⟨_, rfl, ?_⟩
          have n0_ := Aside0.mk (Kd.V_below (Kd.V_t HO_578003.out) hb)
          have n1_ := Aside0.mk (Kd.V_below (Kd.V_t HO_579003.out) hb)
          have n2_ := Aside0.mk (Kd.N_below (Kd.N_t HO_594003.out) hb)
          have n3_ := Aside0.mk (blk_below (bT BK577.out) hb)
          have n4_ := Aside0.mk (blk_below (bT BK578.out) hb)
          have n5_ := Aside0.mk (blk_below (bT BK593.out) hb)
          have n6_ := Aside0.mk (below_step (by repeat (with_reducible first | exact HB.out | apply below_alloc | apply pw_below_drewN | apply below_drew1 | refine below_set ?_ GE577.out | refine below_set ?_ GE578.out | refine below_set ?_ GE593.out)) hb)
          clear HO_578003
          clear HO_579003
          clear HO_594003
          clear BK577
          clear BK578
          clear BK593
          clear HB
          have HO_578003 := n0_
          have HO_579003 := n1_
          have HO_594003 := n2_
          have BK577 := n3_
          have BK578 := n4_
          have BK593 := n5_
          have HB := n6_
          clear n0_ n1_ n2_ n3_ n4_ n5_ n6_
          (try clear hb)
          (try clear hb2)
          (try clear hk)
          (try clear hi)
          refine hK.out _ _ ⟨(blk_cell BK593.out 0).trans rfl, (blk_cell BK593.out 1).trans rfl, (blk_cell BK593.out 2).trans rfl, (blk_cell BK593.out 3).trans rfl, (blk_cell BK577.out 0).trans rfl, (blk_cell BK577.out 1).trans rfl, (blk_cell BK577.out 2).trans rfl, (blk_cell BK577.out 3).trans rfl, (blk_cell BK578.out 0).trans rfl, (blk_cell BK578.out 1).trans rfl, (blk_cell BK578.out 2).trans rfl, (blk_cell BK578.out 3).trans rfl⟩ (fun hHeld => ?_)
          clear hK K
          refine norm_ (a' := ?_) ?_ ?_
          rotate_left
          ·show Act.put _ (some 114) _ = _
           simp only [Act.put, List.setIfInBounds_toArray, List.set_cons_zero, List.set_cons_succ, i64_w, i32_w]
           rfl
          refine pure_ (i := 4) (N := some 115) (v := ?_) (a' := ?_) #[true, true, true, true, true, true, false, false, false, false, false, false, false, false, false, false, false, false, false, false, false, false, false] rfl rfl (any_of HT_.out (by kernel_rfl)) (fun _ _ _ h => h) (Or.inl ⟨by rfl, ?_⟩) ?_ ?_
          rotate_left
          ·intro w'
           go_simp
           with_reducible rfl
          rotate_left
          ·simp only [Act.put, List.setIfInBounds_toArray, List.set_cons_zero, List.set_cons_succ, i64_w, i32_w]
           rfl
          refine one_ (i := 6) (N := some 117) #[true, true, true, true, true, true, true, false, false, false, false, false, false, false, false, false, false, false, false, false, false, false, false] rfl rfl (one_of HT_.out (by kernel_rfl)) (by decide) (fun K hK => ?_)
          refine goes_ Try.func13 (by kernel_rfl) rfl #[.agg #[.int .i64 a1_0, .string a1_1, .int .i64 a1_2, .slice A1_3 l1_3.length c1_3]] (by rfl) rfl rfl (by (try simp only [List.map_toArray, List.map_cons, List.map_nil]); first | done | rfl | (simp only [List.length_drop, List.length_take]; rfl)) ?_
          with_reducible refine (prettydoc_Size.calls kj32 a1_0 a1_1 a1_2 _ _ l1_3 t673 _ ?side1 ?side2 A132.out).mono ?_
          (case side1 => repeat (first | exact (Kd.V_reads' HO_579003.out).2.2 | (with_reducible refine Kd.C_alloc ?_ _) | (with_reducible refine Kd.C_drewN ?_ _) | (with_reducible refine Kd.C_drew ?_)))
          (case side2 => exact (Kd.V_reads' HO_579003.out).2.1)
          rintro e w142 ⟨rfl, hb⟩
          refine ⟨_, rfl, ?_⟩
          have n0_ := Aside0.mk (Kd.V_below (Kd.V_t HO_578003.out) hb)
          have n1_ := Aside0.mk (Kd.V_below (Kd.V_t HO_579003.out) hb)
          have n2_ := Aside0.mk (Kd.N_below (Kd.N_t HO_594003.out) hb)
          have n3_ := Aside0.mk (blk_below (bT BK577.out) hb)
          have n4_ := Aside0.mk (blk_below (bT BK578.out) hb)
          have n5_ := Aside0.mk (blk_below (bT BK593.out) hb)
          have n6_ := Aside0.mk (below_step (by repeat (with_reducible first | exact HB.out | apply below_alloc | apply pw_below_drewN | apply below_drew1 | refine below_set ?_ GE577.out | refine below_set ?_ GE578.out | refine below_set ?_ GE593.out)) hb)
          clear HO_578003
          clear HO_579003
          clear HO_594003
          clear BK577
          clear BK578
          clear BK593
          clear HB
          have HO_578003 := n0_
          have HO_579003 := n1_
          have HO_594003 := n2_
          have BK577 := n3_
          have BK578 := n4_
          have BK593 := n5_
          have HB := n6_
          clear n0_ n1_ n2_ n3_ n4_ n5_ n6_
          (try clear hb)
          (try clear hb2)
          (try clear hk)
          (try clear hi)
          refine hK.out _ _ ⟨(blk_cell BK593.out 0).trans rfl, (blk_cell BK593.out 1).trans rfl, (blk_cell BK593.out 2).trans rfl, (blk_cell BK593.out 3).trans rfl, (blk_cell BK577.out 0).trans rfl, (blk_cell BK577.out 1).trans rfl, (blk_cell BK577.out 2).trans rfl, (blk_cell BK577.out 3).trans rfl, (blk_cell BK578.out 0).trans rfl, (blk_cell BK578.out 1).trans rfl, (blk_cell BK578.out 2).trans rfl, (blk_cell BK578.out 3).trans rfl⟩ (fun hHeld => ?_)
          clear hK K
          refine norm_ (a' := ?_) ?_ ?_
          rotate_left
          ·show Act.put _ (some 117) _ = _
           simp only [Act.put, List.setIfInBounds_toArray, List.set_cons_zero, List.set_cons_succ, i64_w, i32_w]
           rfl
          refine pure_ (i := 7) (N := some 118) (v := ?_) (a' := ?_) #[true, true, true, true, true, true, true, true, false, false, false, false, false, false, false, false, false, false, false, false, false, false, false] rfl rfl (any_of HT_.out (by kernel_rfl)) (fun _ _ _ h => h) (Or.inl ⟨by rfl, ?_⟩) ?_ ?_
          rotate_left
          ·intro w'
           go_simp
           with_reducible rfl
          rotate_left
          ·simp only [Act.put, List.setIfInBounds_toArray, List.set_cons_zero, List.set_cons_succ, i64_w, i32_w]
           rfl
          refine pure_ (i := 8) (N := some 119) (v := ?_) (a' := ?_) #[true, true, true, true, true, true, true, true, true, false, false, false, false, false, false, false, false, false, false, false, false, false, false] rfl rfl (any_of HT_.out (by kernel_rfl)) (fun _ _ _ h => h) (Or.inl ⟨by rfl, ?_⟩) ?_ ?_
          rotate_left
          ·intro w'
           go_simp
           with_reducible rfl
          rotate_left
          ·simp only [Act.put, List.setIfInBounds_toArray, List.set_cons_zero, List.set_cons_succ, i64_w, i32_w]
           rfl
          refine pure_ (i := 9) (N := some 120) (v := ?_) (a' := ?_) #[true, true, true, true, true, true, true, true, true, true, false, false, false, false, false, false, false, false, false, false, false, false, false] rfl rfl (any_of HT_.out (by kernel_rfl)) (fun _ _ _ h => h) (Or.inl ⟨by rfl, ?_⟩) ?_ ?_
          rotate_left
          ·intro w'
           go_simp
           with_reducible rfl
          rotate_left
          ·simp only [Act.put, List.setIfInBounds_toArray, List.set_cons_zero, List.set_cons_succ, i64_w, i32_w]
           rfl
          refine take_ (i := 10) (N := some 121) (v := ?_) (a' := ?_) #[true, true, true, true, true, true, true, true, true, true, true, false, false, false, false, false, false, false, false, false, false, false, false] rfl rfl (take_ofW HT_.out HW_.out (by kernel_rfl)) (fun _ _ _ h => h) (Or.inl ⟨by rfl, ?_⟩) hHeld ?_ ?_
          rotate_left
          ·rintro w' ⟨s0, s1, s2, s3, s4, s5, s6, s7, s8, s9, s10, s11⟩
           go_simp
           with_reducible rfl
          rotate_left
          ·simp only [Act.put, List.setIfInBounds_toArray, List.set_cons_zero, List.set_cons_succ, i64_w, i32_w]
           rfl
          refine take_ (i := 12) (N := some 123) (v := ?_) (a' := ?_) #[true, true, true, true, true, true, true, true, true, true, true, false, true, false, false, false, false, false, false, false, false, false, false] rfl rfl (take_ofW HT_.out HW_.out (by kernel_rfl)) (fun _ _ _ h => h) (Or.inl ⟨by rfl, ?_⟩) hHeld ?_ ?_
          rotate_left
          ·rintro w' ⟨s0, s1, s2, s3, s4, s5, s6, s7, s8, s9, s10, s11⟩
           go_simp
           with_reducible rfl
          rotate_left
          ·simp only [Act.put, List.setIfInBounds_toArray, List.set_cons_zero, List.set_cons_succ, i64_w, i32_w]
           rfl
          refine take_ (i := 14) (N := some 125) (v := ?_) (a' := ?_) #[true, true, true, true, true, true, true, true, true, true, true, false, true, false, true, false, false, false, false, false, false, false, false] rfl rfl (take_ofW HT_.out HW_.out (by kernel_rfl)) (fun _ _ _ h => h) (Or.inl ⟨by rfl, ?_⟩) hHeld ?_ ?_
          rotate_left
          ·rintro w' ⟨s0, s1, s2, s3, s4, s5, s6, s7, s8, s9, s10, s11⟩
           go_simp
           with_reducible rfl
          rotate_left
          ·simp only [Act.put, List.setIfInBounds_toArray, List.set_cons_zero, List.set_cons_succ, i64_w, i32_w]
           rfl
          refine one_ (i := 11) (N := some 122) #[true, true, true, true, true, true, true, true, true, true, true, true, true, false, true, false, false, false, false, false, false, false, false] rfl rfl (one_of HT_.out (by kernel_rfl)) (by decide) (fun K hK => ?_)
          refine goes_ Try.func15 (by kernel_rfl) rfl #[.agg #[.int .i64 t587, .string t588, .int .i64 t589, .slice Ao45 t590.length co45]] (by rfl) rfl rfl (by (try simp only [List.map_toArray, List.map_cons, List.map_nil]); first | done | rfl | (simp only [List.length_drop, List.length_take]; rfl)) ?_
          with_reducible refine (prettydoc_Groups.calls kj32 t587 t588 t589 _ _ t590 t674 _ ?side1 ?side2 A134.out).mono ?_
          (case side1 => repeat (first | exact (Kd.N_reads' HO_594003.out).2.2 | (with_reducible refine Kd.C_alloc ?_ _) | (with_reducible refine Kd.C_drewN ?_ _) | (with_reducible refine Kd.C_drew ?_)))
          (case side2 => exact (Kd.N_reads' HO_594003.out).2.1)
          rintro e w143 ⟨rfl, hb⟩
          refine ⟨_, rfl, ?_⟩
          have n0_ := Aside0.mk (Kd.V_below (Kd.V_t HO_578003.out) hb)
          have n1_ := Aside0.mk (Kd.V_below (Kd.V_t HO_579003.out) hb)
          have n2_ := Aside0.mk (Kd.N_below (Kd.N_t HO_594003.out) hb)
          have n3_ := Aside0.mk (blk_below (bT BK577.out) hb)
          have n4_ := Aside0.mk (blk_below (bT BK578.out) hb)
          have n5_ := Aside0.mk (blk_below (bT BK593.out) hb)
          have n6_ := Aside0.mk (below_step (by repeat (with_reducible first | exact HB.out | apply below_alloc | apply pw_below_drewN | apply below_drew1 | refine below_set ?_ GE577.out | refine below_set ?_ GE578.out | refine below_set ?_ GE593.out)) hb)
          clear HO_578003
          clear HO_579003
          clear HO_594003
          clear BK577
          clear BK578
          clear BK593
          clear HB
          have HO_578003 := n0_
          have HO_579003 := n1_
          have HO_594003 := n2_
          have BK577 := n3_
          have BK578 := n4_
          have BK593 := n5_
          have HB := n6_
          clear n0_ n1_ n2_ n3_ n4_ n5_ n6_
          (try clear hb)
          (try clear hb2)
          (try clear hk)
          (try clear hi)
          refine hK.out _ _ ⟨(blk_cell BK593.out 0).trans rfl, (blk_cell BK593.out 1).trans rfl, (blk_cell BK593.out 2).trans rfl, (blk_cell BK593.out 3).trans rfl, (blk_cell BK577.out 0).trans rfl, (blk_cell BK577.out 1).trans rfl, (blk_cell BK577.out 2).trans rfl, (blk_cell BK577.out 3).trans rfl, (blk_cell BK578.out 0).trans rfl, (blk_cell BK578.out 1).trans rfl, (blk_cell BK578.out 2).trans rfl, (blk_cell BK578.out 3).trans rfl⟩ (fun hHeld => ?_)
          clear hK K
          refine norm_ (a' := ?_) ?_ ?_
          rotate_left
          ·show Act.put _ (some 122) _ = _
           simp only [Act.put, List.setIfInBounds_toArray, List.set_cons_zero, List.set_cons_succ, i64_w, i32_w]
           rfl
          refine one_ (i := 13) (N := some 124) #[true, true, true, true, true, true, true, true, true, true, true, true, true, true, true, false, false, false, false, false, false, false, false] rfl rfl (one_of HT_.out (by kernel_rfl)) (by decide) (fun K hK => ?_)
          refine goes_ Try.func15 (by kernel_rfl) rfl #[.agg #[.int .i64 a0_0, .string a0_1, .int .i64 a0_2, .slice A0_3 l0_3.length c0_3]] (by rfl) rfl rfl (by (try simp only [List.map_toArray, List.map_cons, List.map_nil]); first | done | rfl | (simp only [List.length_drop, List.length_take]; rfl)) ?_
          with_reducible refine (prettydoc_Groups.calls kj32 a0_0 a0_1 a0_2 _ _ l0_3 t675 _ ?side1 ?side2 A135.out).mono ?_
          (case side1 => repeat (first | exact (Kd.V_reads' HO_578003.out).2.2 | (with_reducible refine Kd.C_alloc ?_ _) | (with_reducible refine Kd.C_drewN ?_ _) | (with_reducible refine Kd.C_drew ?_)))
          (case side2 => exact (Kd.V_reads' HO_578003.out).2.1)
          rintro e w144 ⟨rfl, hb⟩
          refine ⟨_, rfl, ?_⟩
          have n0_ := Aside0.mk (Kd.V_below (Kd.V_t HO_578003.out) hb)
          have n1_ := Aside0.mk (Kd.V_below (Kd.V_t HO_579003.out) hb)
          have n2_ := Aside0.mk (Kd.N_below (Kd.N_t HO_594003.out) hb)
          have n3_ := Aside0.mk (blk_below (bT BK577.out) hb)
          have n4_ := Aside0.mk (blk_below (bT BK578.out) hb)
          have n5_ := Aside0.mk (blk_below (bT BK593.out) hb)
          have n6_ := Aside0.mk (below_step (by repeat (with_reducible first | exact HB.out | apply below_alloc | apply pw_below_drewN | apply below_drew1 | refine below_set ?_ GE577.out | refine below_set ?_ GE578.out | refine below_set ?_ GE593.out)) hb)
          clear HO_578003
          clear HO_579003
          clear HO_594003
          clear BK577
          clear BK578
          clear BK593
          clear HB
          have HO_578003 := n0_
          have HO_579003 := n1_
          have HO_594003 := n2_
          have BK577 := n3_
          have BK578 := n4_
          have BK593 := n5_
          have HB := n6_
          clear n0_ n1_ n2_ n3_ n4_ n5_ n6_
          (try clear hb)
          (try clear hb2)
          (try clear hk)
          (try clear hi)
          refine hK.out _ _ ⟨(blk_cell BK593.out 0).trans rfl, (blk_cell BK593.out 1).trans rfl, (blk_cell BK593.out 2).trans rfl, (blk_cell BK593.out 3).trans rfl, (blk_cell BK577.out 0).trans rfl, (blk_cell BK577.out 1).trans rfl, (blk_cell BK577.out 2).trans rfl, (blk_cell BK577.out 3).trans rfl, (blk_cell BK578.out 0).trans rfl, (blk_cell BK578.out 1).trans rfl, (blk_cell BK578.out 2).trans rfl, (blk_cell BK578.out 3).trans rfl⟩ (fun hHeld => ?_)
          clear hK K
          refine norm_ (a' := ?_) ?_ ?_
          rotate_left
          ·show Act.put _ (some 124) _ = _
           simp only [Act.put, List.setIfInBounds_toArray, List.set_cons_zero, List.set_cons_succ, i64_w, i32_w]
           rfl
          refine one_ (i := 15) (N := some 126) #[true, true, true, true, true, true, true, true, true, true, true, true, true, true, true, true, false, false, false, false, false, false, false] rfl rfl (one_of HT_.out (by kernel_rfl)) (by decide) (fun K hK => ?_)
          refine goes_ Try.func15 (by kernel_rfl) rfl #[.agg #[.int .i64 a1_0, .string a1_1, .int .i64 a1_2, .slice A1_3 l1_3.length c1_3]] (by rfl) rfl rfl (by (try simp only [List.map_toArray, List.map_cons, List.map_nil]); first | done | rfl | (simp only [List.length_drop, List.length_take]; rfl)) ?_
          with_reducible refine (prettydoc_Groups.calls kj32 a1_0 a1_1 a1_2 _ _ l1_3 t676 _ ?side1 ?side2 A136.out).mono ?_
          (case side1 => repeat (first | exact (Kd.V_reads' HO_579003.out).2.2 | (with_reducible refine Kd.C_alloc ?_ _) | (with_reducible refine Kd.C_drewN ?_ _) | (with_reducible refine Kd.C_drew ?_)))
          (case side2 => exact (Kd.V_reads' HO_579003.out).2.1)
          rintro e w145 ⟨rfl, hb⟩
          refine ⟨_, rfl, ?_⟩
          have n0_ := Aside0.mk (Kd.V_below (Kd.V_t HO_578003.out) hb)
          have n1_ := Aside0.mk (Kd.V_below (Kd.V_t HO_579003.out) hb)
          have n2_ := Aside0.mk (Kd.N_below (Kd.N_t HO_594003.out) hb)
          have n3_ := Aside0.mk (blk_below (bT BK577.out) hb)
          have n4_ := Aside0.mk (blk_below (bT BK578.out) hb)
          have n5_ := Aside0.mk (blk_below (bT BK593.out) hb)
          have n6_ := Aside0.mk (below_step (by repeat (with_reducible first | exact HB.out | apply below_alloc | apply pw_below_drewN | apply below_drew1 | refine below_set ?_ GE577.out | refine below_set ?_ GE578.out | refine below_set ?_ GE593.out)) hb)
          clear HO_578003
          clear HO_579003
          clear HO_594003
          clear BK577
          clear BK578
          clear BK593
          clear HB
          have HO_578003 := n0_
          have HO_579003 := n1_
          have HO_594003 := n2_
          have BK577 := n3_
          have BK578 := n4_
          have BK593 := n5_
          have HB := n6_
          clear n0_ n1_ n2_ n3_ n4_ n5_ n6_
          (try clear hb)
          (try clear hb2)
          (try clear hk)
          (try clear hi)
          refine hK.out _ _ ⟨(blk_cell BK593.out 0).trans rfl, (blk_cell BK593.out 1).trans rfl, (blk_cell BK593.out 2).trans rfl, (blk_cell BK593.out 3).trans rfl, (blk_cell BK577.out 0).trans rfl, (blk_cell BK577.out 1).trans rfl, (blk_cell BK577.out 2).trans rfl, (blk_cell BK577.out 3).trans rfl, (blk_cell BK578.out 0).trans rfl, (blk_cell BK578.out 1).trans rfl, (blk_cell BK578.out 2).trans rfl, (blk_cell BK578.out 3).trans rfl⟩ (fun hHeld => ?_)
          clear hK K
          refine norm_ (a' := ?_) ?_ ?_
          rotate_left
          ·show Act.put _ (some 126) _ = _
           simp only [Act.put, List.setIfInBounds_toArray, List.set_cons_zero, List.set_cons_succ, i64_w, i32_w]
           rfl
          refine pure_ (i := 16) (N := some 127) (v := ?_) (a' := ?_) #[true, true, true, true, true, true, true, true, true, true, true, true, true, true, true, true, true, false, false, false, false, false, false] rfl rfl (any_of HT_.out (by kernel_rfl)) (fun _ _ _ h => h) (Or.inl ⟨by rfl, ?_⟩) ?_ ?_
          rotate_left
          ·intro w'
           go_simp
           with_reducible rfl
          rotate_left
          ·simp only [Act.put, List.setIfInBounds_toArray, List.set_cons_zero, List.set_cons_succ, i64_w, i32_w]
           rfl
          refine pure_ (i := 17) (N := some 128) (v := ?_) (a' := ?_) #[true, true, true, true, true, true, true, true, true, true, true, true, true, true, true, true, true, true, false, false, false, false, false] rfl rfl (any_of HT_.out (by kernel_rfl)) (fun _ _ _ h => h) (Or.inl ⟨by rfl, ?_⟩) ?_ ?_
          rotate_left
          ·intro w'
           go_simp
           with_reducible rfl
          rotate_left
          ·simp only [Act.put, List.setIfInBounds_toArray, List.set_cons_zero, List.set_cons_succ, i64_w, i32_w]
           rfl
          refine pure_ (i := 18) (N := some 129) (v := ?_) (a' := ?_) #[true, true, true, true, true, true, true, true, true, true, true, true, true, true, true, true, true, true, true, false, false, false, false] rfl rfl (any_of HT_.out (by kernel_rfl)) (fun _ _ _ h => h) (Or.inl ⟨by rfl, ?_⟩) ?_ ?_
          rotate_left
          ·intro w'
           go_simp
           with_reducible rfl
          rotate_left
          ·simp only [Act.put, List.setIfInBounds_toArray, List.set_cons_zero, List.set_cons_succ, i64_w, i32_w]
           rfl
          refine pure_ (i := 19) (N := some 130) (v := ?_) (a' := ?_) #[true, true, true, true, true, true, true, true, true, true, true, true, true, true, true, true, true, true, true, true, false, false, false] rfl rfl (any_of HT_.out (by kernel_rfl)) (fun _ _ _ h => h) (Or.inl ⟨by rfl, ?_⟩) ?_ ?_
          rotate_left
          ·intro w'
           go_simp
           with_reducible rfl
          rotate_left
          ·simp only [Act.put, List.setIfInBounds_toArray, List.set_cons_zero, List.set_cons_succ, i64_w, i32_w]
           rfl
          refine one_ (i := 20) (N := some 131) #[true, true, true, true, true, true, true, true, true, true, true, true, true, true, true, true, true, true, true, true, true, false, false] rfl rfl (one_of HT_.out (by kernel_rfl)) (by decide) (fun K hK => ?_)
          refine goes_ Try.func10 (by kernel_rfl) rfl #[] (by rfl) rfl rfl (by (try simp only [List.map_toArray, List.map_cons, List.map_nil]); first | done | rfl | (simp only [List.length_drop, List.length_take]; rfl)) ?_
          with_reducible refine (arboristlaw54_knows.calls kj32  t677 _ A138.out).mono ?_
          rintro e w146 ⟨rfl, hb⟩
          refine ⟨_, rfl, ?_⟩
          have n0_ := Aside0.mk (Kd.V_below (Kd.V_t HO_578003.out) hb)
          have n1_ := Aside0.mk (Kd.V_below (Kd.V_t HO_579003.out) hb)
          have n2_ := Aside0.mk (Kd.N_below (Kd.N_t HO_594003.out) hb)
          have n3_ := Aside0.mk (blk_below (bT BK577.out) hb)
          have n4_ := Aside0.mk (blk_below (bT BK578.out) hb)
          have n5_ := Aside0.mk (blk_below (bT BK593.out) hb)
          have n6_ := Aside0.mk (below_step (by repeat (with_reducible first | exact HB.out | apply below_alloc | apply pw_below_drewN | apply below_drew1 | refine below_set ?_ GE577.out | refine below_set ?_ GE578.out | refine below_set ?_ GE593.out)) hb)
          clear HO_578003
          clear HO_579003
          clear HO_594003
          clear BK577
          clear BK578
          clear BK593
          clear HB
          have HO_578003 := n0_
          have HO_579003 := n1_
          have HO_594003 := n2_
          have BK577 := n3_
          have BK578 := n4_
          have BK593 := n5_
          have HB := n6_
          clear n0_ n1_ n2_ n3_ n4_ n5_ n6_
          (try clear hb)
          (try clear hb2)
          (try clear hk)
          (try clear hi)
          refine hK.out _ _ ⟨(blk_cell BK593.out 0).trans rfl, (blk_cell BK593.out 1).trans rfl, (blk_cell BK593.out 2).trans rfl, (blk_cell BK593.out 3).trans rfl, (blk_cell BK577.out 0).trans rfl, (blk_cell BK577.out 1).trans rfl, (blk_cell BK577.out 2).trans rfl, (blk_cell BK577.out 3).trans rfl, (blk_cell BK578.out 0).trans rfl, (blk_cell BK578.out 1).trans rfl, (blk_cell BK578.out 2).trans rfl, (blk_cell BK578.out 3).trans rfl⟩ (fun hHeld => ?_)
          clear hK K
          refine norm_ (a' := ?_) ?_ ?_
          rotate_left
          ·show Act.put _ (some 131) _ = _
           simp only [Act.put, List.setIfInBounds_toArray, List.set_cons_zero, List.set_cons_succ, i64_w, i32_w]
           rfl
          refine pure_ (i := 21) (N := some 132) (v := ?_) (a' := ?_) #[true, true, true, true, true, true, true, true, true, true, true, true, true, true, true, true, true, true, true, true, true, true, false] rfl rfl (any_of HT_.out (by kernel_rfl)) (fun _ _ _ h => h) (Or.inl ⟨by rfl, ?_⟩) ?_ ?_
          rotate_left
          ·intro w'
           go_simp
           with_reducible rfl
          rotate_left
          ·simp only [Act.put, List.setIfInBounds_toArray, List.set_cons_zero, List.set_cons_succ, i64_w, i32_w]
           rfl
          refine pure_ (i := 22) (N := some 6) (v := ?_) (a' := ?_) #[true, true, true, true, true, true, true, true, true, true, true, true, true, true, true, true, true, true, true, true, true, true, true] rfl rfl (any_of HT_.out (by kernel_rfl)) (fun _ _ _ h => h) (Or.inl ⟨by rfl, ?_⟩) ?_ ?_
          rotate_left
          ·intro w'
           go_simp
           with_reducible rfl
          rotate_left
          ·simp only [Act.put, List.setIfInBounds_toArray, List.set_cons_zero, List.set_cons_succ, i64_w, i32_w]
           rfl
          refine done_ (done_of HT_.out (by kernel_rfl)) ?_
          try go_wp2
          go_ret
          exact ⟨by first | rfl | (simp [errW_none, errW_some] <;> rfl) | (simp [*, errW_none, errW_some] <;> rfl), by repeat (with_reducible first | exact HB.out | apply below_alloc | apply pw_below_drewN | apply below_drew1 | refine below_set ?_ GE577.out | refine below_set ?_ GE578.out | refine below_set ?_ GE593.out)⟩
         ·rw [if_neg c137] at H
          exact absurd H (by simp)
        ·rw [if_neg c133] at H
         exact absurd H (by simp)
    ·rw [if_neg c26] at H
     exact absurd H (by simp)

/-- THE ONE PURE STATEMENT of arboristlaw54_PrettydocJoins: yours. -/
def arboristlaw54_PrettydocJoins.Pure : Prop := ∀ (x0 : S25) (x1 : S25) (a2 : Int), W25 x0 → W25 x1 → (Lit.int .u8 a2).wf = true → ∃ k, arboristlaw54_PrettydocJoins_v0.f k x0.f0 x0.f1 x0.f2 x0.f3 x1.f0 x1.f1 x1.f2 x1.f3 a2 = some true ∨ arboristlaw54_PrettydocJoins_v1.f k x0.f0 x0.f1 x0.f2 x0.f3 x1.f0 x1.f1 x1.f2 x1.f3 a2 = some true ∨ arboristlaw54_PrettydocJoins_v2.f k x0.f0 x0.f1 x0.f2 x0.f3 x1.f0 x1.f1 x1.f2 x1.f3 a2 = some true
theorem arboristlaw54_PrettydocJoins.walk (P : arboristlaw54_PrettydocJoins.Pure) (x0 : S25) (x1 : S25) (a2 : Int) (A0_3 : Option Addr) (c0_3 : Nat) (A1_3 : Option Addr) (c1_3 : Nat) (w : World) (wf0 : W25 x0) (wf1 : W25 x1) (wf2 : (Lit.int .u8 a2).wf = true) (hr0_3 : Kd.C k25 w A0_3 x0.f3.length x0.f3) (hc0_3 : x0.f3.length ≤ c0_3) (hr1_3 : Kd.C k25 w A1_3 x1.f3.length x1.f3) (hc1_3 : x1.f3.length ≤ c1_3) :
  Calls Try.prog 8 #[.agg #[.int .i64 x0.f0, .string x0.f1, .int .i64 x0.f2, .slice A0_3 x0.f3.length c0_3], .agg #[.int .i64 x1.f0, .string x1.f1, .int .i64 x1.f2, .slice A1_3 x1.f3.length c1_3], .int .u8 a2] w fun e w' => e = .returned (.bool true) ∧ Below w.heap.size w w' := by
 obtain ⟨k, h⟩ := P x0 x1 a2 wf0 wf1 wf2
 rcases h with h | h | h
 ·refine (arboristlaw54_PrettydocJoins_v0.calls k x0.f0 x0.f1 x0.f2 (fun k_ => k_ < w.heap.size) A0_3 c0_3 x0.f3 x1.f0 x1.f1 x1.f2 (fun k_ => k_ < w.heap.size) A1_3 c1_3 x1.f3 a2 true w (Kd.V_mk hc0_3 (Kd.C_F k25_heap hr0_3)) (Kd.V_mk hc1_3 (Kd.C_F k25_heap hr1_3)) h).mono ?_
  rintro e w' ⟨rfl, hd⟩
  exact ⟨rfl, hd⟩
 ·refine (arboristlaw54_PrettydocJoins_v1.calls k x0.f0 x0.f1 x0.f2 (fun k_ => k_ < w.heap.size) A0_3 c0_3 x0.f3 x1.f0 x1.f1 x1.f2 (fun k_ => k_ < w.heap.size) A1_3 c1_3 x1.f3 a2 true w (Kd.V_mk hc0_3 (Kd.C_F k25_heap hr0_3)) (Kd.V_mk hc1_3 (Kd.C_F k25_heap hr1_3)) h).mono ?_
  rintro e w' ⟨rfl, hd⟩
  exact ⟨rfl, hd⟩
 ·refine (arboristlaw54_PrettydocJoins_v2.calls k x0.f0 x0.f1 x0.f2 (fun k_ => k_ < w.heap.size) A0_3 c0_3 x0.f3 x1.f0 x1.f1 x1.f2 (fun k_ => k_ < w.heap.size) A1_3 c1_3 x1.f3 a2 true w (Kd.V_mk hc0_3 (Kd.C_F k25_heap hr0_3)) (Kd.V_mk hc1_3 (Kd.C_F k25_heap hr1_3)) h).mono ?_
  rintro e w' ⟨rfl, hd⟩
  exact ⟨rfl, hd⟩

end Go.Proofs.Ytcmhffjcicolcaa.PA
